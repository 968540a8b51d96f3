/- Functions of the program, told by plain functions: part 1 of 1. -/
import Derived.Test.YtmhggcgkbenedaaDoorCtx
namespace Go.Proofs.YtmhggcgkbenedaaDoor.G
open Go Go.Ev
noncomputable def E_spec_l05First   : Option (List Int) :=
  some [(1779033703 : Int), (3144134277 : Int), (1013904242 : Int), (2773480762 : Int), (1359893119 : Int), (2600822924 : Int), (528734635 : Int), (1541459225 : Int)]
noncomputable def spec_l05First  : Option (List Int) := E_spec_l05First  
theorem e_spec_l05First  : EntryIs0 ctx PP 55 [] [] cv0 cv1 (fun _ => E_spec_l05First  ) := fun a => by kernel_rfl
theorem ok_spec_l05First : Tells ctx PP 55 cv0 cv1 (fun _ => spec_l05First ) := fn_ok0 hl_nil Tryd.func55 (e_spec_l05First )
noncomputable def H_spec_l05First {γ : Type} (F : Option (List Int)) : Hd ctx γ := hdl cv0.dec (fun _ => F ) cv1.enc
theorem h_spec_l05First {γ : Type} : HdOk (γ := γ) PP 55 (H_spec_l05First spec_l05First) := hd_ok ok_spec_l05First
noncomputable def todo_spec_l05Bytes_0 : List Go.Item := [.code (cAt (bodyOf Tryd.f54) [1, 1, 0, 1, 0, 0, 0, 0]), .code (cAt (bodyOf Tryd.f54) [1, 1, 0, 1, 0, 0, 0, 1]), .code (cAt (bodyOf Tryd.f54) [1, 1, 0, 1, 0, 0, 1]), .inLoop (cAt (bodyOf Tryd.f54) [1, 1, 0, 1, 0, 0]), .inBlock 0, .code (cAt (bodyOf Tryd.f54) [1, 1, 1])]
inductive St_spec_l05Bytes where
  | c0 (words_0 : (List Int)) (i_4 : Int) (out_3 : (List Int))
noncomputable def at_spec_l05Bytes : St_spec_l05Bytes → LI
  | .c0 words_0 i_4 out_3 => (todo_spec_l05Bytes_0, [(0, [.one (.rsl 52 words_0)]), (3, [.one (.own 240)]), (4, [.one (.int .i64 i_4)])], [(240, .sl 5 out_3)])
noncomputable def E_spec_l05Bytes  (k : St_spec_l05Bytes → Option ByteArray) (words_0 : (List Int)) : Option ByteArray :=
  k (.c0 words_0 (0 : Int) [])
noncomputable def B_spec_l05Bytes  (k : St_spec_l05Bytes → Option ByteArray) : St_spec_l05Bytes → Option ByteArray
  | .c0 words_0 i_4 out_3 =>
    bif (decide (i_4 < (words_0.length : Int))) then
      bif ((decide (0 ≤ i_4)) && (decide (i_4 < (words_0.length : Int)))) then
      bif (decide (((out_3.length + 4) * 1) ≤ 140737488355328)) then
      k (.c0 words_0 (w64 (i_4 + 1)) (out_3 ++ [(w8 (w32 ((words_0.getD i_4.toNat 0).tdiv 16777216))), (w8 ((w32 ((words_0.getD i_4.toNat 0).tdiv 65536)).tmod 256)), (w8 ((w32 ((words_0.getD i_4.toNat 0).tdiv 256)).tmod 256)), (w8 ((words_0.getD i_4.toNat 0).tmod 256))]))
      else none
      else none
    else
      some (ofBytes out_3)
noncomputable def L_spec_l05Bytes : Nat → St_spec_l05Bytes → Option ByteArray
  | 0, _ => none
  | m + 1, s => B_spec_l05Bytes  (L_spec_l05Bytes m) s
noncomputable def spec_l05Bytes (words_0 : (List Int)) : Option ByteArray := E_spec_l05Bytes  (L_spec_l05Bytes gas) words_0
theorem e_spec_l05Bytes  : EntryIs ctx PP 54 [] [] cv2 cv3 at_spec_l05Bytes (fun k a => E_spec_l05Bytes  k a) := fun stop a => by kernel_rfl
theorem b_spec_l05Bytes  : CutIs ctx PP 54 Tryd.f54 [] [] cv3 at_spec_l05Bytes (B_spec_l05Bytes ) := fun stop s => by cases s <;> kernel_rfl
theorem i_spec_l05Bytes : ∀ s s', at_spec_l05Bytes s = at_spec_l05Bytes s' → s = s' := by
  intro s s' h
  cases s with
  | c0 v0 v1 v2 => cases s' with
    | c0 w0 w1 w2 => cases h; rfl
theorem ok_spec_l05Bytes : Tells ctx PP 54 cv2 cv3 (fun a => spec_l05Bytes a) := fn_ok hl_nil Tryd.func54 i_spec_l05Bytes (fun _ => rfl) (fun _ _ => rfl) (b_spec_l05Bytes ) (e_spec_l05Bytes ) gas
noncomputable def H_spec_l05Bytes {γ : Type} (F : (List Int) → Option ByteArray) : Hd ctx γ := hdl cv2.dec (fun a => F a) cv3.enc
theorem h_spec_l05Bytes {γ : Type} : HdOk (γ := γ) PP 54 (H_spec_l05Bytes spec_l05Bytes) := hd_ok ok_spec_l05Bytes
noncomputable def E_spec_HasherNew (spec_l05First : Option (List Int)) (spec_l05Bytes : (List Int) → Option ByteArray)  : Option SHasher :=
  spec_l05First.bind fun r0 =>
  (spec_l05Bytes r0).bind fun r1 =>
  some (⟨r1, (⟨#[]⟩ : ByteArray), (0 : Int)⟩ : SHasher)
noncomputable def spec_HasherNew  : Option SHasher := E_spec_HasherNew spec_l05First spec_l05Bytes 
theorem e_spec_HasherNew (spec_l05First : Option (List Int)) (spec_l05Bytes : (List Int) → Option ByteArray) : EntryIs0 ctx PP 35 [] [(55, H_spec_l05First spec_l05First), (54, H_spec_l05Bytes spec_l05Bytes)] cv0 cv4 (fun _ => E_spec_HasherNew spec_l05First spec_l05Bytes ) := fun a => by kernel_rfl
theorem ok_spec_HasherNew : Tells ctx PP 35 cv0 cv4 (fun _ => spec_HasherNew ) := fn_ok0 (hl_cons h_spec_l05First (hl_cons h_spec_l05Bytes hl_nil)) Tryd.func35 (e_spec_HasherNew spec_l05First spec_l05Bytes)
noncomputable def H_spec_HasherNew {γ : Type} (F : Option SHasher) : Hd ctx γ := hdl cv0.dec (fun _ => F ) cv4.enc
theorem h_spec_HasherNew {γ : Type} : HdOk (γ := γ) PP 35 (H_spec_HasherNew spec_HasherNew) := hd_ok ok_spec_HasherNew
noncomputable def E_spec_l01In  (x_0 : Int) (least_1 : Int) (most_2 : Int) : Option Bool :=
  bif (decide (x_0 ≥ least_1)) then
    some (decide (x_0 ≤ most_2))
  else
    some false
noncomputable def spec_l01In (x_0 : Int) (least_1 : Int) (most_2 : Int) : Option Bool := E_spec_l01In  x_0 least_1 most_2
theorem e_spec_l01In  : EntryIs0 ctx PP 40 [] [] cv5 cv6 (fun a => E_spec_l01In  a.1 a.2.1 a.2.2) := fun a => by kernel_rfl
theorem ok_spec_l01In : Tells ctx PP 40 cv5 cv6 (fun a => spec_l01In a.1 a.2.1 a.2.2) := fn_ok0 hl_nil Tryd.func40 (e_spec_l01In )
noncomputable def H_spec_l01In {γ : Type} (F : Int → Int → Int → Option Bool) : Hd ctx γ := hdl cv5.dec (fun a => F a.1 a.2.1 a.2.2) cv6.enc
theorem h_spec_l01In {γ : Type} : HdOk (γ := γ) PP 40 (H_spec_l01In spec_l01In) := hd_ok ok_spec_l01In
noncomputable def E_spec_HasherOk (spec_l01In : Int → Int → Int → Option Bool) (h_0 : SHasher) : Option Bool :=
  bif ((h_0.fState.size : Int) == 32) then
    bif (decide ((h_0.fRest.size : Int) < 64)) then
      (spec_l01In h_0.fCount (0 : Int) (1000000000 : Int)).bind fun r0 =>
      bif r0 then
        some ((h_0.fCount.tmod 64) == (h_0.fRest.size : Int))
      else
        some false
    else
      some false
  else
    some false
noncomputable def spec_HasherOk (h_0 : SHasher) : Option Bool := E_spec_HasherOk spec_l01In h_0
theorem e_spec_HasherOk (spec_l01In : Int → Int → Int → Option Bool) : EntryIs0 ctx PP 50 [] [(40, H_spec_l01In spec_l01In)] cv4 cv6 (fun a => E_spec_HasherOk spec_l01In a) := fun a => by kernel_rfl
theorem ok_spec_HasherOk : Tells ctx PP 50 cv4 cv6 (fun a => spec_HasherOk a) := fn_ok0 (hl_cons h_spec_l01In hl_nil) Tryd.func50 (e_spec_HasherOk spec_l01In)
noncomputable def H_spec_HasherOk {γ : Type} (F : SHasher → Option Bool) : Hd ctx γ := hdl cv4.dec (fun a => F a) cv6.enc
theorem h_spec_HasherOk {γ : Type} : HdOk (γ := γ) PP 50 (H_spec_HasherOk spec_HasherOk) := hd_ok ok_spec_HasherOk
noncomputable def E_spec_l05Word  (s_0 : ByteArray) (at_1 : Int) : Option Int :=
  bif ((decide (0 ≤ at_1)) && (decide (at_1 < (s_0.size : Int)))) then
  bif ((decide (0 ≤ (w64 (at_1 + 1)))) && (decide ((w64 (at_1 + 1)) < (s_0.size : Int)))) then
  bif ((decide (0 ≤ (w64 (at_1 + 2)))) && (decide ((w64 (at_1 + 2)) < (s_0.size : Int)))) then
  bif ((decide (0 ≤ (w64 (at_1 + 3)))) && (decide ((w64 (at_1 + 3)) < (s_0.size : Int)))) then
  some (w32 ((w32 ((w32 ((w32 ((w32 (bt s_0 at_1)) * 16777216)) + (w32 ((w32 (bt s_0 (w64 (at_1 + 1)))) * 65536)))) + (w32 ((w32 (bt s_0 (w64 (at_1 + 2)))) * 256)))) + (w32 (bt s_0 (w64 (at_1 + 3))))))
  else none
  else none
  else none
  else none
noncomputable def spec_l05Word (s_0 : ByteArray) (at_1 : Int) : Option Int := E_spec_l05Word  s_0 at_1
theorem e_spec_l05Word  : EntryIs0 ctx PP 61 [] [] cv7 cv8 (fun a => E_spec_l05Word  a.1 a.2) := fun a => by kernel_rfl
theorem ok_spec_l05Word : Tells ctx PP 61 cv7 cv8 (fun a => spec_l05Word a.1 a.2) := fn_ok0 hl_nil Tryd.func61 (e_spec_l05Word )
noncomputable def H_spec_l05Word {γ : Type} (F : ByteArray → Int → Option Int) : Hd ctx γ := hdl cv7.dec (fun a => F a.1 a.2) cv8.enc
theorem h_spec_l05Word {γ : Type} : HdOk (γ := γ) PP 61 (H_spec_l05Word spec_l05Word) := hd_ok ok_spec_l05Word
noncomputable def todo_spec_l05Words_0 : List Go.Item := [.code (cAt (bodyOf Tryd.f51) [1, 1, 0, 1, 0, 0, 0, 0]), .code (cAt (bodyOf Tryd.f51) [1, 1, 0, 1, 0, 0, 0, 1]), .code (cAt (bodyOf Tryd.f51) [1, 1, 0, 1, 0, 0, 1]), .inLoop (cAt (bodyOf Tryd.f51) [1, 1, 0, 1, 0, 0]), .inBlock 0, .code (cAt (bodyOf Tryd.f51) [1, 1, 1])]
inductive St_spec_l05Words where
  | c0 (s_0 : ByteArray) (i_4 : Int) (out_3 : (List Int))
noncomputable def at_spec_l05Words : St_spec_l05Words → LI
  | .c0 s_0 i_4 out_3 => (todo_spec_l05Words_0, [(0, [.one (.str s_0)]), (3, [.one (.own 240)]), (4, [.one (.int .i64 i_4)])], [(240, .sl 52 out_3)])
noncomputable def E_spec_l05Words (spec_l05Word : ByteArray → Int → Option Int) (k : St_spec_l05Words → Option (List Int)) (s_0 : ByteArray) : Option (List Int) :=
  k (.c0 s_0 (0 : Int) [])
noncomputable def B_spec_l05Words (spec_l05Word : ByteArray → Int → Option Int) (k : St_spec_l05Words → Option (List Int)) : St_spec_l05Words → Option (List Int)
  | .c0 s_0 i_4 out_3 =>
    bif (decide ((w64 (i_4 + 4)) ≤ (s_0.size : Int))) then
      (spec_l05Word s_0 i_4).bind fun r0 =>
      bif (decide (((out_3.length + 1) * 4) ≤ 140737488355328)) then
      k (.c0 s_0 (w64 (i_4 + 4)) (out_3 ++ [r0]))
      else none
    else
      some out_3
noncomputable def L_spec_l05Words : Nat → St_spec_l05Words → Option (List Int)
  | 0, _ => none
  | m + 1, s => B_spec_l05Words spec_l05Word (L_spec_l05Words m) s
noncomputable def spec_l05Words (s_0 : ByteArray) : Option (List Int) := E_spec_l05Words spec_l05Word (L_spec_l05Words gas) s_0
theorem e_spec_l05Words (spec_l05Word : ByteArray → Int → Option Int) : EntryIs ctx PP 51 [] [(61, H_spec_l05Word spec_l05Word)] cv3 cv1 at_spec_l05Words (fun k a => E_spec_l05Words spec_l05Word k a) := fun stop a => by kernel_rfl
theorem b_spec_l05Words (spec_l05Word : ByteArray → Int → Option Int) : CutIs ctx PP 51 Tryd.f51 [] [(61, H_spec_l05Word spec_l05Word)] cv1 at_spec_l05Words (B_spec_l05Words spec_l05Word) := fun stop s => by cases s <;> kernel_rfl
theorem i_spec_l05Words : ∀ s s', at_spec_l05Words s = at_spec_l05Words s' → s = s' := by
  intro s s' h
  cases s with
  | c0 v0 v1 v2 => cases s' with
    | c0 w0 w1 w2 => cases h; rfl
theorem ok_spec_l05Words : Tells ctx PP 51 cv3 cv1 (fun a => spec_l05Words a) := fn_ok (hl_cons h_spec_l05Word hl_nil) Tryd.func51 i_spec_l05Words (fun _ => rfl) (fun _ _ => rfl) (b_spec_l05Words spec_l05Word) (e_spec_l05Words spec_l05Word) gas
noncomputable def H_spec_l05Words {γ : Type} (F : ByteArray → Option (List Int)) : Hd ctx γ := hdl cv3.dec (fun a => F a) cv1.enc
theorem h_spec_l05Words {γ : Type} : HdOk (γ := γ) PP 51 (H_spec_l05Words spec_l05Words) := hd_ok ok_spec_l05Words
noncomputable def E_spec_l05K   : Option (List Int) :=
  some [(1116352408 : Int), (1899447441 : Int), (3049323471 : Int), (3921009573 : Int), (961987163 : Int), (1508970993 : Int), (2453635748 : Int), (2870763221 : Int), (3624381080 : Int), (310598401 : Int), (607225278 : Int), (1426881987 : Int), (1925078388 : Int), (2162078206 : Int), (2614888103 : Int), (3248222580 : Int), (3835390401 : Int), (4022224774 : Int), (264347078 : Int), (604807628 : Int), (770255983 : Int), (1249150122 : Int), (1555081692 : Int), (1996064986 : Int), (2554220882 : Int), (2821834349 : Int), (2952996808 : Int), (3210313671 : Int), (3336571891 : Int), (3584528711 : Int), (113926993 : Int), (338241895 : Int), (666307205 : Int), (773529912 : Int), (1294757372 : Int), (1396182291 : Int), (1695183700 : Int), (1986661051 : Int), (2177026350 : Int), (2456956037 : Int), (2730485921 : Int), (2820302411 : Int), (3259730800 : Int), (3345764771 : Int), (3516065817 : Int), (3600352804 : Int), (4094571909 : Int), (275423344 : Int), (430227734 : Int), (506948616 : Int), (659060556 : Int), (883997877 : Int), (958139571 : Int), (1322822218 : Int), (1537002063 : Int), (1747873779 : Int), (1955562222 : Int), (2024104815 : Int), (2227730452 : Int), (2361852424 : Int), (2428436474 : Int), (2756734187 : Int), (3204031479 : Int), (3329325298 : Int)]
noncomputable def spec_l05K  : Option (List Int) := E_spec_l05K  
theorem e_spec_l05K  : EntryIs0 ctx PP 52 [] [] cv0 cv1 (fun _ => E_spec_l05K  ) := fun a => by kernel_rfl
theorem ok_spec_l05K : Tells ctx PP 52 cv0 cv1 (fun _ => spec_l05K ) := fn_ok0 hl_nil Tryd.func52 (e_spec_l05K )
noncomputable def H_spec_l05K {γ : Type} (F : Option (List Int)) : Hd ctx γ := hdl cv0.dec (fun _ => F ) cv1.enc
theorem h_spec_l05K {γ : Type} : HdOk (γ := γ) PP 52 (H_spec_l05K spec_l05K) := hd_ok ok_spec_l05K
noncomputable def E_spec_l05Right  (x_0 : Int) (low_1 : Int) (high_2 : Int) : Option Int :=
  bif (!(low_1 == 0)) then
  bif (!(low_1 == 0)) then
  some (w32 ((w32 (x_0.tdiv low_1)) + (w32 ((x_0.tmod low_1) * high_2))))
  else none
  else none
noncomputable def spec_l05Right (x_0 : Int) (low_1 : Int) (high_2 : Int) : Option Int := E_spec_l05Right  x_0 low_1 high_2
theorem e_spec_l05Right  : EntryIs0 ctx PP 65 [] [] cv9 cv8 (fun a => E_spec_l05Right  a.1 a.2.1 a.2.2) := fun a => by kernel_rfl
theorem ok_spec_l05Right : Tells ctx PP 65 cv9 cv8 (fun a => spec_l05Right a.1 a.2.1 a.2.2) := fn_ok0 hl_nil Tryd.func65 (e_spec_l05Right )
noncomputable def H_spec_l05Right {γ : Type} (F : Int → Int → Int → Option Int) : Hd ctx γ := hdl cv9.dec (fun a => F a.1 a.2.1 a.2.2) cv8.enc
theorem h_spec_l05Right {γ : Type} : HdOk (γ := γ) PP 65 (H_spec_l05Right spec_l05Right) := hd_ok ok_spec_l05Right
noncomputable def E_spec_l05S (spec_l05Right : Int → Int → Int → Option Int) (x_0 : Int) (a_1 : Int) (b_2 : Int) (c_3 : Int) (last_4 : Bool) : Option Int :=
  bif (!(a_1 == 0)) then
  (spec_l05Right x_0 a_1 (w32 ((w32 ((2147483648 : Int).tdiv a_1)) * 2))).bind fun r0 =>
  bif (!(b_2 == 0)) then
  (spec_l05Right x_0 b_2 (w32 ((w32 ((2147483648 : Int).tdiv b_2)) * 2))).bind fun r1 =>
  bif (!(c_3 == 0)) then
  bif (!last_4) then
    bif (!(c_3 == 0)) then
    (spec_l05Right x_0 c_3 (w32 ((w32 ((2147483648 : Int).tdiv c_3)) * 2))).bind fun r2 =>
    some (w32 (((BitVec.toNat ((BitVec.ofInt (IntKind.bits IntKind.u32) (w32 (((BitVec.toNat ((BitVec.ofInt (IntKind.bits IntKind.u32) r0) ^^^ (BitVec.ofInt (IntKind.bits IntKind.u32) r1))) : Nat) : Int))) ^^^ (BitVec.ofInt (IntKind.bits IntKind.u32) r2))) : Nat) : Int))
    else none
  else
    some (w32 (((BitVec.toNat ((BitVec.ofInt (IntKind.bits IntKind.u32) (w32 (((BitVec.toNat ((BitVec.ofInt (IntKind.bits IntKind.u32) r0) ^^^ (BitVec.ofInt (IntKind.bits IntKind.u32) r1))) : Nat) : Int))) ^^^ (BitVec.ofInt (IntKind.bits IntKind.u32) (w32 (x_0.tdiv c_3))))) : Nat) : Int))
  else none
  else none
  else none
noncomputable def spec_l05S (x_0 : Int) (a_1 : Int) (b_2 : Int) (c_3 : Int) (last_4 : Bool) : Option Int := E_spec_l05S spec_l05Right x_0 a_1 b_2 c_3 last_4
theorem e_spec_l05S (spec_l05Right : Int → Int → Int → Option Int) : EntryIs0 ctx PP 62 [] [(65, H_spec_l05Right spec_l05Right)] cv10 cv8 (fun a => E_spec_l05S spec_l05Right a.1 a.2.1 a.2.2.1 a.2.2.2.1 a.2.2.2.2) := fun a => by kernel_rfl
theorem ok_spec_l05S : Tells ctx PP 62 cv10 cv8 (fun a => spec_l05S a.1 a.2.1 a.2.2.1 a.2.2.2.1 a.2.2.2.2) := fn_ok0 (hl_cons h_spec_l05Right hl_nil) Tryd.func62 (e_spec_l05S spec_l05Right)
noncomputable def H_spec_l05S {γ : Type} (F : Int → Int → Int → Int → Bool → Option Int) : Hd ctx γ := hdl cv10.dec (fun a => F a.1 a.2.1 a.2.2.1 a.2.2.2.1 a.2.2.2.2) cv8.enc
theorem h_spec_l05S {γ : Type} : HdOk (γ := γ) PP 62 (H_spec_l05S spec_l05S) := hd_ok ok_spec_l05S
noncomputable def todo_spec_l05Round_0 : List Go.Item := [.code (cAt (bodyOf Tryd.f53) [1, 1, 0, 1, 0, 0, 0, 0]), .code (cAt (bodyOf Tryd.f53) [1, 1, 0, 1, 0, 0, 0, 1]), .code (cAt (bodyOf Tryd.f53) [1, 1, 0, 1, 0, 0, 1]), .inLoop (cAt (bodyOf Tryd.f53) [1, 1, 0, 1, 0, 0]), .inBlock 0, .code (cAt (bodyOf Tryd.f53) [1, 1, 1])]
noncomputable def todo_spec_l05Round_1 : List Go.Item := [.code (cAt (bodyOf Tryd.f53) [1, 1, 1, 1, 0, 1, 0, 0, 0, 0]), .code (cAt (bodyOf Tryd.f53) [1, 1, 1, 1, 0, 1, 0, 0, 0, 1]), .code (cAt (bodyOf Tryd.f53) [1, 1, 1, 1, 0, 1, 0, 0, 1]), .inLoop (cAt (bodyOf Tryd.f53) [1, 1, 1, 1, 0, 1, 0, 0]), .inBlock 2, .code (cAt (bodyOf Tryd.f53) [1, 1, 1, 1, 1])]
noncomputable def todo_spec_l05Round_2 : List Go.Item := [.code (cAt (bodyOf Tryd.f53) [1, 1, 1, 1, 0, 1, 0, 0, 1, 0, 0, 1, 1, 1, 1, 1, 0, 1, 0, 0, 0, 0]), .code (cAt (bodyOf Tryd.f53) [1, 1, 1, 1, 0, 1, 0, 0, 1, 0, 0, 1, 1, 1, 1, 1, 0, 1, 0, 0, 0, 1]), .code (cAt (bodyOf Tryd.f53) [1, 1, 1, 1, 0, 1, 0, 0, 1, 0, 0, 1, 1, 1, 1, 1, 0, 1, 0, 0, 1]), .inLoop (cAt (bodyOf Tryd.f53) [1, 1, 1, 1, 0, 1, 0, 0, 1, 0, 0, 1, 1, 1, 1, 1, 0, 1, 0, 0]), .inBlock 4, .code (cAt (bodyOf Tryd.f53) [1, 1, 1, 1, 0, 1, 0, 0, 1, 0, 0, 1, 1, 1, 1, 1, 1]), .inBlock 3, .code (cAt (bodyOf Tryd.f53) [1, 1, 1, 1, 0, 1, 0, 0, 1, 1]), .inLoop (cAt (bodyOf Tryd.f53) [1, 1, 1, 1, 0, 1, 0, 0]), .inBlock 2, .code (cAt (bodyOf Tryd.f53) [1, 1, 1, 1, 1])]
noncomputable def todo_spec_l05Round_3 : List Go.Item := [.code (cAt (bodyOf Tryd.f53) [1, 1, 1, 1, 1, 1, 0, 1, 0, 0, 0, 0]), .code (cAt (bodyOf Tryd.f53) [1, 1, 1, 1, 1, 1, 0, 1, 0, 0, 0, 1]), .code (cAt (bodyOf Tryd.f53) [1, 1, 1, 1, 1, 1, 0, 1, 0, 0, 1]), .inLoop (cAt (bodyOf Tryd.f53) [1, 1, 1, 1, 1, 1, 0, 1, 0, 0]), .inBlock 6, .code (cAt (bodyOf Tryd.f53) [1, 1, 1, 1, 1, 1, 1])]
inductive St_spec_l05Round where
  | c0 (t_0 : (List Int)) (o_1 : (List Int)) (v_8 : Int) (v_7 : (List Int))
  | c1 (t_0 : (List Int)) (o_1 : (List Int)) (v_10 : Int) (v_7 : (List Int)) (v_9 : (List Int))
  | c2 (t_0 : (List Int)) (o_1 : (List Int)) (v_10 : Int) (v_13 : Int) (v_15 : Int) (v_16 : Int) (v_7 : (List Int)) (v_9 : (List Int))
  | c3 (t_0 : (List Int)) (v_18 : Int) (v_9 : (List Int)) (v_17 : (List Int))
noncomputable def at_spec_l05Round : St_spec_l05Round → LI
  | .c0 t_0 o_1 v_8 v_7 => (todo_spec_l05Round_0, [(0, [.one (.rsl 52 t_0)]), (1, [.one (.rsl 52 o_1)]), (7, [.one (.own 496)]), (8, [.one (.int .i64 v_8)])], [(496, .sl 52 v_7)])
  | .c1 t_0 o_1 v_10 v_7 v_9 => (todo_spec_l05Round_1, [(0, [.one (.rsl 52 t_0)]), (1, [.one (.rsl 52 o_1)]), (7, [.one (.own 496)]), (9, [.one (.own 624)]), (10, [.one (.int .i64 v_10)])], [(496, .sl 52 v_7), (624, .sl 52 v_9)])
  | .c2 t_0 o_1 v_10 v_13 v_15 v_16 v_7 v_9 => (todo_spec_l05Round_2, [(0, [.one (.rsl 52 t_0)]), (1, [.one (.rsl 52 o_1)]), (7, [.one (.own 496)]), (9, [.one (.own 624)]), (10, [.one (.int .i64 v_10)]), (13, [.one (.int .u32 v_13)]), (15, [.one (.int .u32 v_15)]), (16, [.one (.int .i64 v_16)])], [(496, .sl 52 v_7), (624, .sl 52 v_9)])
  | .c3 t_0 v_18 v_9 v_17 => (todo_spec_l05Round_3, [(0, [.one (.rsl 52 t_0)]), (9, [.one (.own 624)]), (17, [.one (.own 1136)]), (18, [.one (.int .i64 v_18)])], [(624, .sl 52 v_9), (1136, .sl 52 v_17)])
noncomputable def E_spec_l05Round (spec_l05Words : ByteArray → Option (List Int)) (spec_l05S : Int → Int → Int → Int → Bool → Option Int) (k : St_spec_l05Round → Option (List Int)) (t_0 : (List Int)) (o_1 : (List Int)) (A_2 : ByteArray) : Option (List Int) :=
  (spec_l05Words A_2).bind fun r0 =>
  k (.c0 t_0 o_1 (16 : Int) r0)
noncomputable def B_spec_l05Round (spec_l05Words : ByteArray → Option (List Int)) (spec_l05S : Int → Int → Int → Int → Bool → Option Int) (k : St_spec_l05Round → Option (List Int)) : St_spec_l05Round → Option (List Int)
  | .c0 t_0 o_1 v_8 v_7 =>
    bif (decide (v_8 < 64)) then
      bif ((decide (0 ≤ (w64 (v_8 - 2)))) && (decide ((w64 (v_8 - 2)) < (v_7.length : Int)))) then
      (spec_l05S (v_7.getD (w64 (v_8 - 2)).toNat 0) (131072 : Int) (524288 : Int) (1024 : Int) true).bind fun r0 =>
      bif ((decide (0 ≤ (w64 (v_8 - 7)))) && (decide ((w64 (v_8 - 7)) < (v_7.length : Int)))) then
      bif ((decide (0 ≤ (w64 (v_8 - 15)))) && (decide ((w64 (v_8 - 15)) < (v_7.length : Int)))) then
      (spec_l05S (v_7.getD (w64 (v_8 - 15)).toNat 0) (128 : Int) (262144 : Int) (8 : Int) true).bind fun r1 =>
      bif ((decide (0 ≤ (w64 (v_8 - 16)))) && (decide ((w64 (v_8 - 16)) < (v_7.length : Int)))) then
      bif (decide (((v_7.length + 1) * 4) ≤ 140737488355328)) then
      k (.c0 t_0 o_1 (w64 (v_8 + 1)) (v_7 ++ [(w32 ((w32 ((w32 (r0 + (v_7.getD (w64 (v_8 - 7)).toNat 0))) + r1)) + (v_7.getD (w64 (v_8 - 16)).toNat 0)))]))
      else none
      else none
      else none
      else none
      else none
    else
      bif (decide (((0 + t_0.length) * 4) ≤ 140737488355328)) then
      k (.c1 t_0 o_1 (0 : Int) v_7 ([] ++ t_0))
      else none
  | .c1 t_0 o_1 v_10 v_7 v_9 =>
    bif (decide (v_10 < 64)) then
      bif ((decide ((0 : Int) ≤ (4 : Int))) && (decide (4 < (v_9.length : Int)))) then
      bif ((decide ((0 : Int) ≤ (5 : Int))) && (decide (5 < (v_9.length : Int)))) then
      bif ((decide ((0 : Int) ≤ (6 : Int))) && (decide (6 < (v_9.length : Int)))) then
      bif ((decide ((0 : Int) ≤ (7 : Int))) && (decide (7 < (v_9.length : Int)))) then
      (spec_l05S (v_9.getD (4 : Int).toNat 0) (64 : Int) (2048 : Int) (33554432 : Int) false).bind fun r0 =>
      bif ((decide (0 ≤ v_10)) && (decide (v_10 < (o_1.length : Int)))) then
      bif ((decide (0 ≤ v_10)) && (decide (v_10 < (v_7.length : Int)))) then
      bif ((decide ((0 : Int) ≤ (0 : Int))) && (decide (0 < (v_9.length : Int)))) then
      bif ((decide ((0 : Int) ≤ (1 : Int))) && (decide (1 < (v_9.length : Int)))) then
      bif ((decide ((0 : Int) ≤ (0 : Int))) && (decide (0 < (v_9.length : Int)))) then
      bif ((decide ((0 : Int) ≤ (2 : Int))) && (decide (2 < (v_9.length : Int)))) then
      bif ((decide ((0 : Int) ≤ (1 : Int))) && (decide (1 < (v_9.length : Int)))) then
      bif ((decide ((0 : Int) ≤ (2 : Int))) && (decide (2 < (v_9.length : Int)))) then
      bif ((decide ((0 : Int) ≤ (0 : Int))) && (decide (0 < (v_9.length : Int)))) then
      (spec_l05S (v_9.getD (0 : Int).toNat 0) (4 : Int) (8192 : Int) (4194304 : Int) false).bind fun r1 =>
      k (.c2 t_0 o_1 v_10 (w32 ((w32 ((w32 ((w32 ((v_9.getD (7 : Int).toNat 0) + r0)) + (w32 (((BitVec.toNat ((BitVec.ofInt (IntKind.bits IntKind.u32) (w32 (((BitVec.toNat ((BitVec.ofInt (IntKind.bits IntKind.u32) (v_9.getD (4 : Int).toNat 0)) &&& (BitVec.ofInt (IntKind.bits IntKind.u32) (v_9.getD (5 : Int).toNat 0)))) : Nat) : Int))) ^^^ (BitVec.ofInt (IntKind.bits IntKind.u32) (w32 (((BitVec.toNat ((BitVec.ofInt (IntKind.bits IntKind.u32) (w32 (4294967295 - (v_9.getD (4 : Int).toNat 0)))) &&& (BitVec.ofInt (IntKind.bits IntKind.u32) (v_9.getD (6 : Int).toNat 0)))) : Nat) : Int))))) : Nat) : Int)))) + (o_1.getD v_10.toNat 0))) + (v_7.getD v_10.toNat 0))) (w32 (r1 + (w32 (((BitVec.toNat ((BitVec.ofInt (IntKind.bits IntKind.u32) (w32 (((BitVec.toNat ((BitVec.ofInt (IntKind.bits IntKind.u32) (w32 (((BitVec.toNat ((BitVec.ofInt (IntKind.bits IntKind.u32) (v_9.getD (0 : Int).toNat 0)) &&& (BitVec.ofInt (IntKind.bits IntKind.u32) (v_9.getD (1 : Int).toNat 0)))) : Nat) : Int))) ^^^ (BitVec.ofInt (IntKind.bits IntKind.u32) (w32 (((BitVec.toNat ((BitVec.ofInt (IntKind.bits IntKind.u32) (v_9.getD (0 : Int).toNat 0)) &&& (BitVec.ofInt (IntKind.bits IntKind.u32) (v_9.getD (2 : Int).toNat 0)))) : Nat) : Int))))) : Nat) : Int))) ^^^ (BitVec.ofInt (IntKind.bits IntKind.u32) (w32 (((BitVec.toNat ((BitVec.ofInt (IntKind.bits IntKind.u32) (v_9.getD (1 : Int).toNat 0)) &&& (BitVec.ofInt (IntKind.bits IntKind.u32) (v_9.getD (2 : Int).toNat 0)))) : Nat) : Int))))) : Nat) : Int)))) (7 : Int) v_7 v_9)
      else none
      else none
      else none
      else none
      else none
      else none
      else none
      else none
      else none
      else none
      else none
      else none
      else none
    else
      k (.c3 t_0 (0 : Int) v_9 [])
  | .c2 t_0 o_1 v_10 v_13 v_15 v_16 v_7 v_9 =>
    bif (decide (v_16 > 0)) then
      bif ((decide (0 ≤ (w64 (v_16 - 1)))) && (decide ((w64 (v_16 - 1)) < (v_9.length : Int)))) then
      bif ((decide (0 ≤ v_16)) && (decide (v_16 < (v_9.length : Int)))) then
      k (.c2 t_0 o_1 v_10 v_13 v_15 (w64 (v_16 - 1)) v_7 (v_9.set v_16.toNat (v_9.getD (w64 (v_16 - 1)).toNat 0)))
      else none
      else none
    else
      bif ((decide ((0 : Int) ≤ (4 : Int))) && (decide (4 < (v_9.length : Int)))) then
      bif ((decide ((0 : Int) ≤ (4 : Int))) && (decide (4 < (v_9.length : Int)))) then
      bif ((decide ((0 : Int) ≤ (0 : Int))) && (decide (0 < ((v_9.set (4 : Int).toNat (w32 ((v_9.getD (4 : Int).toNat 0) + v_13))).length : Int)))) then
      k (.c1 t_0 o_1 (w64 (v_10 + 1)) v_7 ((v_9.set (4 : Int).toNat (w32 ((v_9.getD (4 : Int).toNat 0) + v_13))).set (0 : Int).toNat (w32 (v_13 + v_15))))
      else none
      else none
      else none
  | .c3 t_0 v_18 v_9 v_17 =>
    bif (decide (v_18 < 8)) then
      bif ((decide (0 ≤ v_18)) && (decide (v_18 < (t_0.length : Int)))) then
      bif ((decide (0 ≤ v_18)) && (decide (v_18 < (v_9.length : Int)))) then
      bif (decide (((v_17.length + 1) * 4) ≤ 140737488355328)) then
      k (.c3 t_0 (w64 (v_18 + 1)) v_9 (v_17 ++ [(w32 ((t_0.getD v_18.toNat 0) + (v_9.getD v_18.toNat 0)))]))
      else none
      else none
      else none
    else
      some v_17
noncomputable def L_spec_l05Round : Nat → St_spec_l05Round → Option (List Int)
  | 0, _ => none
  | m + 1, s => B_spec_l05Round spec_l05Words spec_l05S (L_spec_l05Round m) s
noncomputable def spec_l05Round (t_0 : (List Int)) (o_1 : (List Int)) (A_2 : ByteArray) : Option (List Int) := E_spec_l05Round spec_l05Words spec_l05S (L_spec_l05Round gas) t_0 o_1 A_2
theorem e_spec_l05Round (spec_l05Words : ByteArray → Option (List Int)) (spec_l05S : Int → Int → Int → Int → Bool → Option Int) : EntryIs ctx PP 53 [] [(51, H_spec_l05Words spec_l05Words), (62, H_spec_l05S spec_l05S)] cv11 cv1 at_spec_l05Round (fun k a => E_spec_l05Round spec_l05Words spec_l05S k a.1 a.2.1 a.2.2) := fun stop a => by kernel_rfl
theorem b_spec_l05Round (spec_l05Words : ByteArray → Option (List Int)) (spec_l05S : Int → Int → Int → Int → Bool → Option Int) : CutIs ctx PP 53 Tryd.f53 [] [(51, H_spec_l05Words spec_l05Words), (62, H_spec_l05S spec_l05S)] cv1 at_spec_l05Round (B_spec_l05Round spec_l05Words spec_l05S) := fun stop s => by cases s <;> kernel_rfl
theorem i_spec_l05Round : ∀ s s', at_spec_l05Round s = at_spec_l05Round s' → s = s' := by
  intro s s' h
  cases s with
  | c0 v0 v1 v2 v3 => cases s' with
    | c0 w0 w1 w2 w3 => cases h; rfl
    | c1 w0 w1 w2 w3 w4 => exact (region_ne 3 8 h (by kernel_rfl) (by kernel_rfl) rfl).elim
    | c2 w0 w1 w2 w3 w4 w5 w6 w7 => exact (region_ne 3 16 h (by kernel_rfl) (by kernel_rfl) rfl).elim
    | c3 w0 w1 w2 w3 => exact (region_ne 3 23 h (by kernel_rfl) (by kernel_rfl) rfl).elim
  | c1 v0 v1 v2 v3 v4 => cases s' with
    | c0 w0 w1 w2 w3 => exact (region_ne 8 3 h (by kernel_rfl) (by kernel_rfl) rfl).elim
    | c1 w0 w1 w2 w3 w4 => cases h; rfl
    | c2 w0 w1 w2 w3 w4 w5 w6 w7 => exact (region_ne 8 16 h (by kernel_rfl) (by kernel_rfl) rfl).elim
    | c3 w0 w1 w2 w3 => exact (region_ne 8 23 h (by kernel_rfl) (by kernel_rfl) rfl).elim
  | c2 v0 v1 v2 v3 v4 v5 v6 v7 => cases s' with
    | c0 w0 w1 w2 w3 => exact (region_ne 16 3 h (by kernel_rfl) (by kernel_rfl) rfl).elim
    | c1 w0 w1 w2 w3 w4 => exact (region_ne 16 8 h (by kernel_rfl) (by kernel_rfl) rfl).elim
    | c2 w0 w1 w2 w3 w4 w5 w6 w7 => cases h; rfl
    | c3 w0 w1 w2 w3 => exact (region_ne 16 23 h (by kernel_rfl) (by kernel_rfl) rfl).elim
  | c3 v0 v1 v2 v3 => cases s' with
    | c0 w0 w1 w2 w3 => exact (region_ne 23 3 h (by kernel_rfl) (by kernel_rfl) rfl).elim
    | c1 w0 w1 w2 w3 w4 => exact (region_ne 23 8 h (by kernel_rfl) (by kernel_rfl) rfl).elim
    | c2 w0 w1 w2 w3 w4 w5 w6 w7 => exact (region_ne 23 16 h (by kernel_rfl) (by kernel_rfl) rfl).elim
    | c3 w0 w1 w2 w3 => cases h; rfl
theorem ok_spec_l05Round : Tells ctx PP 53 cv11 cv1 (fun a => spec_l05Round a.1 a.2.1 a.2.2) := fn_ok (hl_cons h_spec_l05Words (hl_cons h_spec_l05S hl_nil)) Tryd.func53 i_spec_l05Round (fun _ => rfl) (fun _ _ => rfl) (b_spec_l05Round spec_l05Words spec_l05S) (e_spec_l05Round spec_l05Words spec_l05S) gas
noncomputable def H_spec_l05Round {γ : Type} (F : (List Int) → (List Int) → ByteArray → Option (List Int)) : Hd ctx γ := hdl cv11.dec (fun a => F a.1 a.2.1 a.2.2) cv1.enc
theorem h_spec_l05Round {γ : Type} : HdOk (γ := γ) PP 53 (H_spec_l05Round spec_l05Round) := hd_ok ok_spec_l05Round
noncomputable def todo_spec_HashMore_0 : List Go.Item := [.code (cAt (bodyOf Tryd.f34) [1, 1, 1, 1, 1, 1, 0, 0, 0, 0, 0]), .code (cAt (bodyOf Tryd.f34) [1, 1, 1, 1, 1, 1, 0, 0, 0, 0, 1]), .code (cAt (bodyOf Tryd.f34) [1, 1, 1, 1, 1, 1, 0, 0, 0, 1]), .inLoop (cAt (bodyOf Tryd.f34) [1, 1, 1, 1, 1, 1, 0, 0, 0]), .inBlock 0, .code (cAt (bodyOf Tryd.f34) [1, 1, 1, 1, 1, 1, 1])]
inductive St_spec_HashMore where
  | c0 (s_1 : ByteArray) (buf_7 : ByteArray) (at_8 : Int) (h_2 : SHasher) (v_4 : SHasher) (state_5 : (List Int)) (k_6 : (List Int))
noncomputable def at_spec_HashMore : St_spec_HashMore → LI
  | .c0 s_1 buf_7 at_8 h_2 v_4 state_5 k_6 => (todo_spec_HashMore_0, [(1, [.one (.str s_1)]), (2, [.one (.ptr 128 0)]), (4, [.one (.ptr 256 0)]), (5, [.one (.own 368)]), (6, [.one (.own 432)]), (7, [.one (.str buf_7)]), (8, [.one (.int .i64 at_8)])], [(128, .var [.str h_2.fState, .str h_2.fRest, .int .i64 h_2.fCount]), (256, .var [.str v_4.fState, .str v_4.fRest, .int .i64 v_4.fCount]), (368, .sl 52 state_5), (432, .sl 52 k_6)])
noncomputable def E_spec_HashMore (spec_HasherOk : SHasher → Option Bool) (spec_l05Words : ByteArray → Option (List Int)) (spec_l05K : Option (List Int)) (spec_l05Round : (List Int) → (List Int) → ByteArray → Option (List Int)) (spec_l05Bytes : (List Int) → Option ByteArray) (k : St_spec_HashMore → Option SHasher) (h_0 : SHasher) (s_1 : ByteArray) : Option SHasher :=
  (spec_HasherOk h_0).bind fun r0 =>
  bif (!r0) then
    some h_0
  else
    bif (decide ((w64 (h_0.fCount + (s_1.size : Int))) > 1000000000)) then
      some h_0
    else
      (spec_l05Words h_0.fState).bind fun r1 =>
      spec_l05K.bind fun r2 =>
      bif (decide ((h_0.fRest.size + s_1.size) ≤ 9223372036854775807)) then
      k (.c0 s_1 (h_0.fRest ++ s_1) (0 : Int) h_0 (⟨(⟨#[]⟩ : ByteArray), (⟨#[]⟩ : ByteArray), (0 : Int)⟩ : SHasher) r1 r2)
      else none
noncomputable def B_spec_HashMore (spec_HasherOk : SHasher → Option Bool) (spec_l05Words : ByteArray → Option (List Int)) (spec_l05K : Option (List Int)) (spec_l05Round : (List Int) → (List Int) → ByteArray → Option (List Int)) (spec_l05Bytes : (List Int) → Option ByteArray) (k : St_spec_HashMore → Option SHasher) : St_spec_HashMore → Option SHasher
  | .c0 s_1 buf_7 at_8 h_2 v_4 state_5 k_6 =>
    bif (decide ((w64 (at_8 + 64)) ≤ (buf_7.size : Int))) then
      bif (((decide (0 ≤ at_8)) && (decide (at_8 ≤ (w64 (at_8 + 64))))) && (decide ((w64 (at_8 + 64)) ≤ (buf_7.size : Int)))) then
      (spec_l05Round state_5 k_6 (buf_7.extract at_8.toNat (w64 (at_8 + 64)).toNat)).bind fun r0 =>
      k (.c0 s_1 buf_7 (w64 (at_8 + 64)) h_2 v_4 r0 k_6)
      else none
    else
      (spec_l05Bytes state_5).bind fun r1 =>
      bif ((decide (0 ≤ at_8)) && (decide (at_8 ≤ (buf_7.size : Int)))) then
      some (⟨r1, (buf_7.extract at_8.toNat buf_7.size), (w64 (h_2.fCount + (s_1.size : Int)))⟩ : SHasher)
      else none
noncomputable def L_spec_HashMore : Nat → St_spec_HashMore → Option SHasher
  | 0, _ => none
  | m + 1, s => B_spec_HashMore spec_HasherOk spec_l05Words spec_l05K spec_l05Round spec_l05Bytes (L_spec_HashMore m) s
noncomputable def spec_HashMore (h_0 : SHasher) (s_1 : ByteArray) : Option SHasher := E_spec_HashMore spec_HasherOk spec_l05Words spec_l05K spec_l05Round spec_l05Bytes (L_spec_HashMore gas) h_0 s_1
theorem e_spec_HashMore (spec_HasherOk : SHasher → Option Bool) (spec_l05Words : ByteArray → Option (List Int)) (spec_l05K : Option (List Int)) (spec_l05Round : (List Int) → (List Int) → ByteArray → Option (List Int)) (spec_l05Bytes : (List Int) → Option ByteArray) : EntryIs ctx PP 34 [] [(50, H_spec_HasherOk spec_HasherOk), (51, H_spec_l05Words spec_l05Words), (52, H_spec_l05K spec_l05K), (53, H_spec_l05Round spec_l05Round), (54, H_spec_l05Bytes spec_l05Bytes)] cv12 cv4 at_spec_HashMore (fun k a => E_spec_HashMore spec_HasherOk spec_l05Words spec_l05K spec_l05Round spec_l05Bytes k a.1 a.2) := fun stop a => by kernel_rfl
theorem b_spec_HashMore (spec_HasherOk : SHasher → Option Bool) (spec_l05Words : ByteArray → Option (List Int)) (spec_l05K : Option (List Int)) (spec_l05Round : (List Int) → (List Int) → ByteArray → Option (List Int)) (spec_l05Bytes : (List Int) → Option ByteArray) : CutIs ctx PP 34 Tryd.f34 [] [(50, H_spec_HasherOk spec_HasherOk), (51, H_spec_l05Words spec_l05Words), (52, H_spec_l05K spec_l05K), (53, H_spec_l05Round spec_l05Round), (54, H_spec_l05Bytes spec_l05Bytes)] cv4 at_spec_HashMore (B_spec_HashMore spec_HasherOk spec_l05Words spec_l05K spec_l05Round spec_l05Bytes) := fun stop s => by cases s <;> kernel_rfl
theorem i_spec_HashMore : ∀ s s', at_spec_HashMore s = at_spec_HashMore s' → s = s' := by
  intro s s' h
  cases s with
  | c0 v0 v1 v2 v3 v4 v5 v6 => cases s' with
    | c0 w0 w1 w2 w3 w4 w5 w6 => obtain ⟨_, _, _⟩ := v3; obtain ⟨_, _, _⟩ := w3; obtain ⟨_, _, _⟩ := v4; obtain ⟨_, _, _⟩ := w4; cases h; rfl
theorem ok_spec_HashMore : Tells ctx PP 34 cv12 cv4 (fun a => spec_HashMore a.1 a.2) := fn_ok (hl_cons h_spec_HasherOk (hl_cons h_spec_l05Words (hl_cons h_spec_l05K (hl_cons h_spec_l05Round (hl_cons h_spec_l05Bytes hl_nil))))) Tryd.func34 i_spec_HashMore (fun _ => rfl) (fun _ _ => rfl) (b_spec_HashMore spec_HasherOk spec_l05Words spec_l05K spec_l05Round spec_l05Bytes) (e_spec_HashMore spec_HasherOk spec_l05Words spec_l05K spec_l05Round spec_l05Bytes) gas
noncomputable def H_spec_HashMore {γ : Type} (F : SHasher → ByteArray → Option SHasher) : Hd ctx γ := hdl cv12.dec (fun a => F a.1 a.2) cv4.enc
theorem h_spec_HashMore {γ : Type} : HdOk (γ := γ) PP 34 (H_spec_HashMore spec_HashMore) := hd_ok ok_spec_HashMore
noncomputable def todo_spec_HashEnd_0 : List Go.Item := [.code (cAt (bodyOf Tryd.f33) [1, 1, 1, 1, 0, 0, 0, 0, 0]), .code (cAt (bodyOf Tryd.f33) [1, 1, 1, 1, 0, 0, 0, 0, 1]), .code (cAt (bodyOf Tryd.f33) [1, 1, 1, 1, 0, 0, 0, 1]), .inLoop (cAt (bodyOf Tryd.f33) [1, 1, 1, 1, 0, 0, 0]), .inBlock 0, .code (cAt (bodyOf Tryd.f33) [1, 1, 1, 1, 1])]
noncomputable def todo_spec_HashEnd_1 : List Go.Item := [.code (cAt (bodyOf Tryd.f33) [1, 1, 1, 1, 1, 1, 0, 1, 0, 0, 0, 0]), .code (cAt (bodyOf Tryd.f33) [1, 1, 1, 1, 1, 1, 0, 1, 0, 0, 0, 1]), .code (cAt (bodyOf Tryd.f33) [1, 1, 1, 1, 1, 1, 0, 1, 0, 0, 1]), .inLoop (cAt (bodyOf Tryd.f33) [1, 1, 1, 1, 1, 1, 0, 1, 0, 0]), .inBlock 2, .code (cAt (bodyOf Tryd.f33) [1, 1, 1, 1, 1, 1, 1])]
noncomputable def todo_spec_HashEnd_2 : List Go.Item := [.code (cAt (bodyOf Tryd.f33) [1, 1, 1, 1, 1, 1, 0, 1, 0, 0, 1, 0, 0, 1, 0, 1, 0, 0, 0, 0]), .code (cAt (bodyOf Tryd.f33) [1, 1, 1, 1, 1, 1, 0, 1, 0, 0, 1, 0, 0, 1, 0, 1, 0, 0, 0, 1]), .code (cAt (bodyOf Tryd.f33) [1, 1, 1, 1, 1, 1, 0, 1, 0, 0, 1, 0, 0, 1, 0, 1, 0, 0, 1]), .inLoop (cAt (bodyOf Tryd.f33) [1, 1, 1, 1, 1, 1, 0, 1, 0, 0, 1, 0, 0, 1, 0, 1, 0, 0]), .inBlock 4, .code (cAt (bodyOf Tryd.f33) [1, 1, 1, 1, 1, 1, 0, 1, 0, 0, 1, 0, 0, 1, 1]), .inBlock 3, .code (cAt (bodyOf Tryd.f33) [1, 1, 1, 1, 1, 1, 0, 1, 0, 0, 1, 1]), .inLoop (cAt (bodyOf Tryd.f33) [1, 1, 1, 1, 1, 1, 0, 1, 0, 0]), .inBlock 2, .code (cAt (bodyOf Tryd.f33) [1, 1, 1, 1, 1, 1, 1])]
noncomputable def todo_spec_HashEnd_3 : List Go.Item := [.code (cAt (bodyOf Tryd.f33) [1, 1, 1, 1, 1, 1, 1, 1, 1, 0, 1, 0, 0, 0, 0]), .code (cAt (bodyOf Tryd.f33) [1, 1, 1, 1, 1, 1, 1, 1, 1, 0, 1, 0, 0, 0, 1]), .code (cAt (bodyOf Tryd.f33) [1, 1, 1, 1, 1, 1, 1, 1, 1, 0, 1, 0, 0, 1]), .inLoop (cAt (bodyOf Tryd.f33) [1, 1, 1, 1, 1, 1, 1, 1, 1, 0, 1, 0, 0]), .inBlock 6, .code (cAt (bodyOf Tryd.f33) [1, 1, 1, 1, 1, 1, 1, 1, 1, 1])]
inductive St_spec_HashEnd where
  | c0 (h_1 : SHasher) (tail_3 : (List Int))
  | c1 (bits_4 : Int) (i_5 : Int) (h_1 : SHasher) (tail_3 : (List Int))
  | c2 (bits_4 : Int) (i_5 : Int) (x_6 : Int) (k_7 : Int) (h_1 : SHasher) (tail_3 : (List Int))
  | c3 (at_10 : Int) (tail_3 : (List Int)) (state_8 : (List Int)) (k_9 : (List Int))
noncomputable def at_spec_HashEnd : St_spec_HashEnd → LI
  | .c0 h_1 tail_3 => (todo_spec_HashEnd_0, [(1, [.one (.ptr 64 0)]), (3, [.one (.own 240)])], [(64, .var [.str h_1.fState, .str h_1.fRest, .int .i64 h_1.fCount]), (240, .sl 5 tail_3)])
  | .c1 bits_4 i_5 h_1 tail_3 => (todo_spec_HashEnd_1, [(1, [.one (.ptr 64 0)]), (3, [.one (.own 240)]), (4, [.one (.int .i64 bits_4)]), (5, [.one (.int .i64 i_5)])], [(64, .var [.str h_1.fState, .str h_1.fRest, .int .i64 h_1.fCount]), (240, .sl 5 tail_3)])
  | .c2 bits_4 i_5 x_6 k_7 h_1 tail_3 => (todo_spec_HashEnd_2, [(1, [.one (.ptr 64 0)]), (3, [.one (.own 240)]), (4, [.one (.int .i64 bits_4)]), (5, [.one (.int .i64 i_5)]), (6, [.one (.int .i64 x_6)]), (7, [.one (.int .i64 k_7)])], [(64, .var [.str h_1.fState, .str h_1.fRest, .int .i64 h_1.fCount]), (240, .sl 5 tail_3)])
  | .c3 at_10 tail_3 state_8 k_9 => (todo_spec_HashEnd_3, [(3, [.one (.own 240)]), (8, [.one (.own 560)]), (9, [.one (.own 624)]), (10, [.one (.int .i64 at_10)])], [(240, .sl 5 tail_3), (560, .sl 52 state_8), (624, .sl 52 k_9)])
noncomputable def E_spec_HashEnd (spec_HasherOk : SHasher → Option Bool) (spec_l05Words : ByteArray → Option (List Int)) (spec_l05K : Option (List Int)) (spec_l05Round : (List Int) → (List Int) → ByteArray → Option (List Int)) (spec_l05Bytes : (List Int) → Option ByteArray) (k : St_spec_HashEnd → Option ByteArray) (h_0 : SHasher) : Option ByteArray :=
  (spec_HasherOk h_0).bind fun r0 =>
  bif (!r0) then
    some (⟨#[]⟩ : ByteArray)
  else
    bif (decide (h_0.fRest.size ≤ 9223372036854775807)) then
    bif (decide ((((bytesOf h_0.fRest).length + 1) * 1) ≤ 140737488355328)) then
    k (.c0 h_0 ((bytesOf h_0.fRest) ++ [(128 : Int)]))
    else none
    else none
noncomputable def B_spec_HashEnd (spec_HasherOk : SHasher → Option Bool) (spec_l05Words : ByteArray → Option (List Int)) (spec_l05K : Option (List Int)) (spec_l05Round : (List Int) → (List Int) → ByteArray → Option (List Int)) (spec_l05Bytes : (List Int) → Option ByteArray) (k : St_spec_HashEnd → Option ByteArray) : St_spec_HashEnd → Option ByteArray
  | .c0 h_1 tail_3 =>
    bif (((tail_3.length : Int).tmod 64) != 56) then
      bif (decide (((tail_3.length + 1) * 1) ≤ 140737488355328)) then
      k (.c0 h_1 (tail_3 ++ [(0 : Int)]))
      else none
    else
      k (.c1 (w64 (8 * h_1.fCount)) (7 : Int) h_1 tail_3)
  | .c1 bits_4 i_5 h_1 tail_3 =>
    bif (decide (i_5 ≥ 0)) then
      k (.c2 bits_4 i_5 bits_4 (0 : Int) h_1 tail_3)
    else
      (spec_l05Words h_1.fState).bind fun r0 =>
      spec_l05K.bind fun r1 =>
      k (.c3 (0 : Int) tail_3 r0 r1)
  | .c2 bits_4 i_5 x_6 k_7 h_1 tail_3 =>
    bif (decide (k_7 < i_5)) then
      k (.c2 bits_4 i_5 (w64 (x_6.tdiv 256)) (w64 (k_7 + 1)) h_1 tail_3)
    else
      bif (decide (((tail_3.length + 1) * 1) ≤ 140737488355328)) then
      k (.c1 bits_4 (w64 (i_5 - 1)) h_1 (tail_3 ++ [(w8 (x_6.tmod 256))]))
      else none
  | .c3 at_10 tail_3 state_8 k_9 =>
    bif (decide (at_10 < (tail_3.length : Int))) then
      bif (((decide (0 ≤ at_10)) && (decide (at_10 ≤ (w64 (at_10 + 64))))) && (decide ((w64 (at_10 + 64)) ≤ (tail_3.length : Int)))) then
      (spec_l05Round state_8 k_9 (ofBytes ((tail_3.drop at_10.toNat).take ((w64 (at_10 + 64)).toNat - at_10.toNat)))).bind fun r0 =>
      k (.c3 (w64 (at_10 + 64)) tail_3 r0 k_9)
      else none
    else
      (spec_l05Bytes state_8).bind fun r1 =>
      some r1
noncomputable def L_spec_HashEnd : Nat → St_spec_HashEnd → Option ByteArray
  | 0, _ => none
  | m + 1, s => B_spec_HashEnd spec_HasherOk spec_l05Words spec_l05K spec_l05Round spec_l05Bytes (L_spec_HashEnd m) s
noncomputable def spec_HashEnd (h_0 : SHasher) : Option ByteArray := E_spec_HashEnd spec_HasherOk spec_l05Words spec_l05K spec_l05Round spec_l05Bytes (L_spec_HashEnd gas) h_0
theorem e_spec_HashEnd (spec_HasherOk : SHasher → Option Bool) (spec_l05Words : ByteArray → Option (List Int)) (spec_l05K : Option (List Int)) (spec_l05Round : (List Int) → (List Int) → ByteArray → Option (List Int)) (spec_l05Bytes : (List Int) → Option ByteArray) : EntryIs ctx PP 33 [] [(50, H_spec_HasherOk spec_HasherOk), (51, H_spec_l05Words spec_l05Words), (52, H_spec_l05K spec_l05K), (53, H_spec_l05Round spec_l05Round), (54, H_spec_l05Bytes spec_l05Bytes)] cv4 cv3 at_spec_HashEnd (fun k a => E_spec_HashEnd spec_HasherOk spec_l05Words spec_l05K spec_l05Round spec_l05Bytes k a) := fun stop a => by kernel_rfl
theorem b_spec_HashEnd (spec_HasherOk : SHasher → Option Bool) (spec_l05Words : ByteArray → Option (List Int)) (spec_l05K : Option (List Int)) (spec_l05Round : (List Int) → (List Int) → ByteArray → Option (List Int)) (spec_l05Bytes : (List Int) → Option ByteArray) : CutIs ctx PP 33 Tryd.f33 [] [(50, H_spec_HasherOk spec_HasherOk), (51, H_spec_l05Words spec_l05Words), (52, H_spec_l05K spec_l05K), (53, H_spec_l05Round spec_l05Round), (54, H_spec_l05Bytes spec_l05Bytes)] cv3 at_spec_HashEnd (B_spec_HashEnd spec_HasherOk spec_l05Words spec_l05K spec_l05Round spec_l05Bytes) := fun stop s => by cases s <;> kernel_rfl
theorem i_spec_HashEnd : ∀ s s', at_spec_HashEnd s = at_spec_HashEnd s' → s = s' := by
  intro s s' h
  cases s with
  | c0 v0 v1 => cases s' with
    | c0 w0 w1 => obtain ⟨_, _, _⟩ := v0; obtain ⟨_, _, _⟩ := w0; cases h; rfl
    | c1 w0 w1 w2 w3 => exact (region_ne 5 9 h (by kernel_rfl) (by kernel_rfl) rfl).elim
    | c2 w0 w1 w2 w3 w4 w5 => exact (region_ne 5 13 h (by kernel_rfl) (by kernel_rfl) rfl).elim
    | c3 w0 w1 w2 w3 => exact (region_ne 5 20 h (by kernel_rfl) (by kernel_rfl) rfl).elim
  | c1 v0 v1 v2 v3 => cases s' with
    | c0 w0 w1 => exact (region_ne 9 5 h (by kernel_rfl) (by kernel_rfl) rfl).elim
    | c1 w0 w1 w2 w3 => obtain ⟨_, _, _⟩ := v2; obtain ⟨_, _, _⟩ := w2; cases h; rfl
    | c2 w0 w1 w2 w3 w4 w5 => exact (region_ne 9 13 h (by kernel_rfl) (by kernel_rfl) rfl).elim
    | c3 w0 w1 w2 w3 => exact (region_ne 9 20 h (by kernel_rfl) (by kernel_rfl) rfl).elim
  | c2 v0 v1 v2 v3 v4 v5 => cases s' with
    | c0 w0 w1 => exact (region_ne 13 5 h (by kernel_rfl) (by kernel_rfl) rfl).elim
    | c1 w0 w1 w2 w3 => exact (region_ne 13 9 h (by kernel_rfl) (by kernel_rfl) rfl).elim
    | c2 w0 w1 w2 w3 w4 w5 => obtain ⟨_, _, _⟩ := v4; obtain ⟨_, _, _⟩ := w4; cases h; rfl
    | c3 w0 w1 w2 w3 => exact (region_ne 13 20 h (by kernel_rfl) (by kernel_rfl) rfl).elim
  | c3 v0 v1 v2 v3 => cases s' with
    | c0 w0 w1 => exact (region_ne 20 5 h (by kernel_rfl) (by kernel_rfl) rfl).elim
    | c1 w0 w1 w2 w3 => exact (region_ne 20 9 h (by kernel_rfl) (by kernel_rfl) rfl).elim
    | c2 w0 w1 w2 w3 w4 w5 => exact (region_ne 20 13 h (by kernel_rfl) (by kernel_rfl) rfl).elim
    | c3 w0 w1 w2 w3 => cases h; rfl
theorem ok_spec_HashEnd : Tells ctx PP 33 cv4 cv3 (fun a => spec_HashEnd a) := fn_ok (hl_cons h_spec_HasherOk (hl_cons h_spec_l05Words (hl_cons h_spec_l05K (hl_cons h_spec_l05Round (hl_cons h_spec_l05Bytes hl_nil))))) Tryd.func33 i_spec_HashEnd (fun _ => rfl) (fun _ _ => rfl) (b_spec_HashEnd spec_HasherOk spec_l05Words spec_l05K spec_l05Round spec_l05Bytes) (e_spec_HashEnd spec_HasherOk spec_l05Words spec_l05K spec_l05Round spec_l05Bytes) gas
noncomputable def H_spec_HashEnd {γ : Type} (F : SHasher → Option ByteArray) : Hd ctx γ := hdl cv4.dec (fun a => F a) cv3.enc
theorem h_spec_HashEnd {γ : Type} : HdOk (γ := γ) PP 33 (H_spec_HashEnd spec_HashEnd) := hd_ok ok_spec_HashEnd
noncomputable def E_spec_DigestOf (spec_HasherNew : Option SHasher) (spec_HashMore : SHasher → ByteArray → Option SHasher) (spec_HashEnd : SHasher → Option ByteArray) (s_0 : ByteArray) : Option ByteArray :=
  spec_HasherNew.bind fun r0 =>
  (spec_HashMore r0 s_0).bind fun r1 =>
  (spec_HashEnd r1).bind fun r2 =>
  some r2
noncomputable def spec_DigestOf (s_0 : ByteArray) : Option ByteArray := E_spec_DigestOf spec_HasherNew spec_HashMore spec_HashEnd s_0
theorem e_spec_DigestOf (spec_HasherNew : Option SHasher) (spec_HashMore : SHasher → ByteArray → Option SHasher) (spec_HashEnd : SHasher → Option ByteArray) : EntryIs0 ctx PP 19 [] [(35, H_spec_HasherNew spec_HasherNew), (34, H_spec_HashMore spec_HashMore), (33, H_spec_HashEnd spec_HashEnd)] cv3 cv3 (fun a => E_spec_DigestOf spec_HasherNew spec_HashMore spec_HashEnd a) := fun a => by kernel_rfl
theorem ok_spec_DigestOf : Tells ctx PP 19 cv3 cv3 (fun a => spec_DigestOf a) := fn_ok0 (hl_cons h_spec_HasherNew (hl_cons h_spec_HashMore (hl_cons h_spec_HashEnd hl_nil))) Tryd.func19 (e_spec_DigestOf spec_HasherNew spec_HashMore spec_HashEnd)
noncomputable def H_spec_DigestOf {γ : Type} (F : ByteArray → Option ByteArray) : Hd ctx γ := hdl cv3.dec (fun a => F a) cv3.enc
theorem h_spec_DigestOf {γ : Type} : HdOk (γ := γ) PP 19 (H_spec_DigestOf spec_DigestOf) := hd_ok ok_spec_DigestOf
noncomputable def todo_spec_l01Long_0 : List Go.Item := [.code (cAt (bodyOf Tryd.f28) [1, 1, 0, 1, 0, 0, 0, 0]), .code (cAt (bodyOf Tryd.f28) [1, 1, 0, 1, 0, 0, 0, 1]), .code (cAt (bodyOf Tryd.f28) [1, 1, 0, 1, 0, 0, 1]), .inLoop (cAt (bodyOf Tryd.f28) [1, 1, 0, 1, 0, 0]), .inBlock 0, .code (cAt (bodyOf Tryd.f28) [1, 1, 1])]
inductive St_spec_l01Long where
  | c0 (n_0 : Int) (x_1 : Int) (i_6 : Int) (out_5 : (List Int))
noncomputable def at_spec_l01Long : St_spec_l01Long → LI
  | .c0 n_0 x_1 i_6 out_5 => (todo_spec_l01Long_0, [(0, [.one (.int .i64 n_0)]), (1, [.one (.int .u8 x_1)]), (5, [.one (.own 368)]), (6, [.one (.int .i64 i_6)])], [(368, .sl 5 out_5)])
noncomputable def E_spec_l01Long  (k : St_spec_l01Long → Option ByteArray) (n_0 : Int) (x_1 : Int) : Option ByteArray :=
  bif ((((decide (0 ≤ n_0)) && (decide (n_0 ≤ n_0))) && (decide (n_0 ≤ 9223372036854775807))) && (decide ((n_0.toNat * 1) ≤ 140737488355328))) then
  k (.c0 n_0 x_1 (0 : Int) (List.replicate n_0.toNat (0 : Int)))
  else none
noncomputable def B_spec_l01Long  (k : St_spec_l01Long → Option ByteArray) : St_spec_l01Long → Option ByteArray
  | .c0 n_0 x_1 i_6 out_5 =>
    bif (decide (i_6 < n_0)) then
      bif ((decide (0 ≤ i_6)) && (decide (i_6 < (out_5.length : Int)))) then
      k (.c0 n_0 x_1 (w64 (i_6 + 1)) (out_5.set i_6.toNat x_1))
      else none
    else
      some (ofBytes out_5)
noncomputable def L_spec_l01Long : Nat → St_spec_l01Long → Option ByteArray
  | 0, _ => none
  | m + 1, s => B_spec_l01Long  (L_spec_l01Long m) s
noncomputable def spec_l01Long (n_0 : Int) (x_1 : Int) : Option ByteArray := E_spec_l01Long  (L_spec_l01Long gas) n_0 x_1
theorem e_spec_l01Long  : EntryIs ctx PP 28 [] [] cv25 cv3 at_spec_l01Long (fun k a => E_spec_l01Long  k a.1 a.2) := fun stop a => by kernel_rfl
theorem b_spec_l01Long  : CutIs ctx PP 28 Tryd.f28 [] [] cv3 at_spec_l01Long (B_spec_l01Long ) := fun stop s => by cases s <;> kernel_rfl
theorem i_spec_l01Long : ∀ s s', at_spec_l01Long s = at_spec_l01Long s' → s = s' := by
  intro s s' h
  cases s with
  | c0 v0 v1 v2 v3 => cases s' with
    | c0 w0 w1 w2 w3 => cases h; rfl
theorem ok_spec_l01Long : Tells ctx PP 28 cv25 cv3 (fun a => spec_l01Long a.1 a.2) := fn_ok hl_nil Tryd.func28 i_spec_l01Long (fun _ => rfl) (fun _ _ => rfl) (b_spec_l01Long ) (e_spec_l01Long ) gas
noncomputable def H_spec_l01Long {γ : Type} (F : Int → Int → Option ByteArray) : Hd ctx γ := hdl cv25.dec (fun a => F a.1 a.2) cv3.enc
theorem h_spec_l01Long {γ : Type} : HdOk (γ := γ) PP 28 (H_spec_l01Long spec_l01Long) := hd_ok ok_spec_l01Long
noncomputable def E_spec_BookNew (spec_DigestOf : ByteArray → Option ByteArray) (spec_l01Long : Int → Int → Option ByteArray)  : Option SBook :=
  (spec_DigestOf (⟨#[]⟩ : ByteArray)).bind fun r0 =>
  (spec_l01Long (32 : Int) (0 : Int)).bind fun r1 =>
  some (⟨r0, (0 : Int), [], (0 : Int), r1, (0 : Int)⟩ : SBook)
noncomputable def spec_BookNew  : Option SBook := E_spec_BookNew spec_DigestOf spec_l01Long 
theorem e_spec_BookNew (spec_DigestOf : ByteArray → Option ByteArray) (spec_l01Long : Int → Int → Option ByteArray) : EntryIs0 ctx PP 14 [] [(19, H_spec_DigestOf spec_DigestOf), (28, H_spec_l01Long spec_l01Long)] cv0 cv26 (fun _ => E_spec_BookNew spec_DigestOf spec_l01Long ) := fun a => by kernel_rfl
theorem ok_spec_BookNew : Tells ctx PP 14 cv0 cv26 (fun _ => spec_BookNew ) := fn_ok0 (hl_cons h_spec_DigestOf (hl_cons h_spec_l01Long hl_nil)) Tryd.func14 (e_spec_BookNew spec_DigestOf spec_l01Long)
noncomputable def H_spec_BookNew {γ : Type} (F : Option SBook) : Hd ctx γ := hdl cv0.dec (fun _ => F ) cv26.enc
theorem h_spec_BookNew {γ : Type} : HdOk (γ := γ) PP 14 (H_spec_BookNew spec_BookNew) := hd_ok ok_spec_BookNew
noncomputable def E_impl_firstState   : Option (List Int) :=
  some [(1779033703 : Int), (3144134277 : Int), (1013904242 : Int), (2773480762 : Int), (1359893119 : Int), (2600822924 : Int), (528734635 : Int), (1541459225 : Int)]
noncomputable def impl_firstState  : Option (List Int) := E_impl_firstState  
theorem e_impl_firstState  : EntryIs0 ctx PP 37 [] [] cv0 cv15 (fun _ => E_impl_firstState  ) := fun a => by kernel_rfl
theorem ok_impl_firstState : Tells ctx PP 37 cv0 cv15 (fun _ => impl_firstState ) := fn_ok0 hl_nil Tryd.func37 (e_impl_firstState )
noncomputable def H_impl_firstState {γ : Type} (F : Option (List Int)) : Hd ctx γ := hdl cv0.dec (fun _ => F ) cv15.enc
theorem h_impl_firstState {γ : Type} : HdOk (γ := γ) PP 37 (H_impl_firstState impl_firstState) := hd_ok ok_impl_firstState
noncomputable def E_impl_zeros  (n_0 : Int) : Option ByteArray :=
  bif ((((decide (0 ≤ n_0)) && (decide (n_0 ≤ n_0))) && (decide (n_0 ≤ 9223372036854775807))) && (decide ((n_0.toNat * 1) ≤ 140737488355328))) then
  some (ofBytes (List.replicate n_0.toNat (0 : Int)))
  else none
noncomputable def impl_zeros (n_0 : Int) : Option ByteArray := E_impl_zeros  n_0
theorem e_impl_zeros  : EntryIs0 ctx PP 29 [] [] cv16 cv3 (fun a => E_impl_zeros  a) := fun a => by kernel_rfl
theorem ok_impl_zeros : Tells ctx PP 29 cv16 cv3 (fun a => impl_zeros a) := fn_ok0 hl_nil Tryd.func29 (e_impl_zeros )
noncomputable def H_impl_zeros {γ : Type} (F : Int → Option ByteArray) : Hd ctx γ := hdl cv16.dec (fun a => F a) cv3.enc
theorem h_impl_zeros {γ : Type} : HdOk (γ := γ) PP 29 (H_impl_zeros impl_zeros) := hd_ok ok_impl_zeros
noncomputable def E_impl_fourBytes  (n_0 : Int) : Option ByteArray :=
  some (ofBytes [(w8 (Int.fdiv n_0 (2 ^ (Min.min (24 : Int).toNat (IntKind.bits IntKind.u32))))), (w8 (Int.fdiv n_0 (2 ^ (Min.min (16 : Int).toNat (IntKind.bits IntKind.u32))))), (w8 (Int.fdiv n_0 (2 ^ (Min.min (8 : Int).toNat (IntKind.bits IntKind.u32))))), (w8 n_0)])
noncomputable def impl_fourBytes (n_0 : Int) : Option ByteArray := E_impl_fourBytes  n_0
theorem e_impl_fourBytes  : EntryIs0 ctx PP 58 [] [] cv8 cv3 (fun a => E_impl_fourBytes  a) := fun a => by kernel_rfl
theorem ok_impl_fourBytes : Tells ctx PP 58 cv8 cv3 (fun a => impl_fourBytes a) := fn_ok0 hl_nil Tryd.func58 (e_impl_fourBytes )
noncomputable def H_impl_fourBytes {γ : Type} (F : Int → Option ByteArray) : Hd ctx γ := hdl cv8.dec (fun a => F a) cv3.enc
theorem h_impl_fourBytes {γ : Type} : HdOk (γ := γ) PP 58 (H_impl_fourBytes impl_fourBytes) := hd_ok ok_impl_fourBytes
noncomputable def E_impl_eightBytes (impl_fourBytes : Int → Option ByteArray) (n_0 : Int) : Option ByteArray :=
  (impl_fourBytes (w32 (Int.fdiv n_0 (2 ^ (Min.min (32 : Int).toNat (IntKind.bits IntKind.i64)))))).bind fun r0 =>
  (impl_fourBytes (w32 n_0)).bind fun r1 =>
  bif (decide ((r0.size + r1.size) ≤ 9223372036854775807)) then
  some (r0 ++ r1)
  else none
noncomputable def impl_eightBytes (n_0 : Int) : Option ByteArray := E_impl_eightBytes impl_fourBytes n_0
theorem e_impl_eightBytes (impl_fourBytes : Int → Option ByteArray) : EntryIs0 ctx PP 57 [] [(58, H_impl_fourBytes impl_fourBytes)] cv16 cv3 (fun a => E_impl_eightBytes impl_fourBytes a) := fun a => by kernel_rfl
theorem ok_impl_eightBytes : Tells ctx PP 57 cv16 cv3 (fun a => impl_eightBytes a) := fn_ok0 (hl_cons h_impl_fourBytes hl_nil) Tryd.func57 (e_impl_eightBytes impl_fourBytes)
noncomputable def H_impl_eightBytes {γ : Type} (F : Int → Option ByteArray) : Hd ctx γ := hdl cv16.dec (fun a => F a) cv3.enc
theorem h_impl_eightBytes {γ : Type} : HdOk (γ := γ) PP 57 (H_impl_eightBytes impl_eightBytes) := hd_ok ok_impl_eightBytes
noncomputable def E_impl_ending (impl_zeros : Int → Option ByteArray) (impl_eightBytes : Int → Option ByteArray) (count_0 : Int) : Option ByteArray :=
  (impl_zeros ((w64 (119 - (count_0.tmod 64))).tmod 64)).bind fun r0 =>
  bif (decide (((⟨#[128]⟩ : ByteArray).size + r0.size) ≤ 9223372036854775807)) then
  (impl_eightBytes (w64 (8 * count_0))).bind fun r1 =>
  bif (decide ((((⟨#[128]⟩ : ByteArray) ++ r0).size + r1.size) ≤ 9223372036854775807)) then
  some (((⟨#[128]⟩ : ByteArray) ++ r0) ++ r1)
  else none
  else none
noncomputable def impl_ending (count_0 : Int) : Option ByteArray := E_impl_ending impl_zeros impl_eightBytes count_0
theorem e_impl_ending (impl_zeros : Int → Option ByteArray) (impl_eightBytes : Int → Option ByteArray) : EntryIs0 ctx PP 38 [] [(29, H_impl_zeros impl_zeros), (57, H_impl_eightBytes impl_eightBytes)] cv16 cv3 (fun a => E_impl_ending impl_zeros impl_eightBytes a) := fun a => by kernel_rfl
theorem ok_impl_ending : Tells ctx PP 38 cv16 cv3 (fun a => impl_ending a) := fn_ok0 (hl_cons h_impl_zeros (hl_cons h_impl_eightBytes hl_nil)) Tryd.func38 (e_impl_ending impl_zeros impl_eightBytes)
noncomputable def H_impl_ending {γ : Type} (F : Int → Option ByteArray) : Hd ctx γ := hdl cv16.dec (fun a => F a) cv3.enc
theorem h_impl_ending {γ : Type} : HdOk (γ := γ) PP 38 (H_impl_ending impl_ending) := hd_ok ok_impl_ending
noncomputable def E_math_bits_RotateLeft32  (x_0 : Int) (k_1 : Int) : Option Int :=
  bif (decide (0 ≤ (wu64 (32 - (wu64 (((BitVec.toNat ((BitVec.ofInt (IntKind.bits IntKind.u64) (wu64 k_1)) &&& (BitVec.ofInt (IntKind.bits IntKind.u64) (31 : Int)))) : Nat) : Int)))))) then
  some (w32 (((BitVec.toNat ((BitVec.ofInt (IntKind.bits IntKind.u32) (w32 (x_0 * (2 ^ (Min.min (wu64 (((BitVec.toNat ((BitVec.ofInt (IntKind.bits IntKind.u64) (wu64 k_1)) &&& (BitVec.ofInt (IntKind.bits IntKind.u64) (31 : Int)))) : Nat) : Int)).toNat (IntKind.bits IntKind.u32)))))) ||| (BitVec.ofInt (IntKind.bits IntKind.u32) (Int.fdiv x_0 (2 ^ (Min.min (wu64 (32 - (wu64 (((BitVec.toNat ((BitVec.ofInt (IntKind.bits IntKind.u64) (wu64 k_1)) &&& (BitVec.ofInt (IntKind.bits IntKind.u64) (31 : Int)))) : Nat) : Int)))).toNat (IntKind.bits IntKind.u32))))))) : Nat) : Int))
  else none
noncomputable def math_bits_RotateLeft32 (x_0 : Int) (k_1 : Int) : Option Int := E_math_bits_RotateLeft32  x_0 k_1
theorem e_math_bits_RotateLeft32  : EntryIs0 ctx PP 66 [] [] cv17 cv8 (fun a => E_math_bits_RotateLeft32  a.1 a.2) := fun a => by kernel_rfl
theorem ok_math_bits_RotateLeft32 : Tells ctx PP 66 cv17 cv8 (fun a => math_bits_RotateLeft32 a.1 a.2) := fn_ok0 hl_nil Tryd.func66 (e_math_bits_RotateLeft32 )
noncomputable def H_math_bits_RotateLeft32 {γ : Type} (F : Int → Int → Option Int) : Hd ctx γ := hdl cv17.dec (fun a => F a.1 a.2) cv8.enc
theorem h_math_bits_RotateLeft32 {γ : Type} : HdOk (γ := γ) PP 66 (H_math_bits_RotateLeft32 math_bits_RotateLeft32) := hd_ok ok_math_bits_RotateLeft32
noncomputable def E_impl_right (math_bits_RotateLeft32 : Int → Int → Option Int) (x_0 : Int) (n_1 : Int) : Option Int :=
  (math_bits_RotateLeft32 x_0 (w64 (0 - n_1))).bind fun r0 =>
  some r0
noncomputable def impl_right (x_0 : Int) (n_1 : Int) : Option Int := E_impl_right math_bits_RotateLeft32 x_0 n_1
theorem e_impl_right (math_bits_RotateLeft32 : Int → Int → Option Int) : EntryIs0 ctx PP 64 [] [(66, H_math_bits_RotateLeft32 math_bits_RotateLeft32)] cv17 cv8 (fun a => E_impl_right math_bits_RotateLeft32 a.1 a.2) := fun a => by kernel_rfl
theorem ok_impl_right : Tells ctx PP 64 cv17 cv8 (fun a => impl_right a.1 a.2) := fn_ok0 (hl_cons h_math_bits_RotateLeft32 hl_nil) Tryd.func64 (e_impl_right math_bits_RotateLeft32)
noncomputable def H_impl_right {γ : Type} (F : Int → Int → Option Int) : Hd ctx γ := hdl cv17.dec (fun a => F a.1 a.2) cv8.enc
theorem h_impl_right {γ : Type} : HdOk (γ := γ) PP 64 (H_impl_right impl_right) := hd_ok ok_impl_right
noncomputable def todo_impl_wordsOf_0 : List Go.Item := [.code (cAt (bodyOf Tryd.f63) [1, 1, 0, 1, 0, 0, 0]), .code (cAt (bodyOf Tryd.f63) [1, 1, 0, 1, 0, 0, 1]), .inLoop (cAt (bodyOf Tryd.f63) [1, 1, 0, 1, 0, 0]), .inBlock 0, .code (cAt (bodyOf Tryd.f63) [1, 1, 1])]
noncomputable def todo_impl_wordsOf_1 : List Go.Item := [.code (cAt (bodyOf Tryd.f63) [1, 1, 0, 1, 0, 0, 1, 1, 0, 0, 1, 1, 0, 0, 0]), .code (cAt (bodyOf Tryd.f63) [1, 1, 0, 1, 0, 0, 1, 1, 0, 0, 1, 1, 0, 0, 1]), .inLoop (cAt (bodyOf Tryd.f63) [1, 1, 0, 1, 0, 0, 1, 1, 0, 0, 1, 1, 0, 0]), .inBlock 2, .inBlock 1, .code (cAt (bodyOf Tryd.f63) [1, 1, 0, 1, 0, 0, 1, 1, 1]), .inLoop (cAt (bodyOf Tryd.f63) [1, 1, 0, 1, 0, 0]), .inBlock 0, .code (cAt (bodyOf Tryd.f63) [1, 1, 1])]
noncomputable def todo_impl_wordsOf_2 : List Go.Item := [.code (cAt (bodyOf Tryd.f63) [1, 1, 1, 0, 1, 0, 0, 0, 0]), .code (cAt (bodyOf Tryd.f63) [1, 1, 1, 0, 1, 0, 0, 0, 1]), .code (cAt (bodyOf Tryd.f63) [1, 1, 1, 0, 1, 0, 0, 1]), .inLoop (cAt (bodyOf Tryd.f63) [1, 1, 1, 0, 1, 0, 0]), .inBlock 4, .code (cAt (bodyOf Tryd.f63) [1, 1, 1, 1])]
inductive St_impl_wordsOf where
  | c0 (block_0 : ByteArray) (v_11 : Int) (v_2r0 : (List Int)) (w_3r0 : (List Int))
  | c1 (block_0 : ByteArray) (i_4 : Int) (v_11 : Int) (v_14 : Int) (v_2r0 : (List Int)) (w_3r0 : (List Int))
  | c2 (t_6 : Int) (v_2r0 : (List Int)) (w_3r0 : (List Int))
noncomputable def at_impl_wordsOf : St_impl_wordsOf → LI
  | .c0 block_0 v_11 v_2r0 w_3r0 => (todo_impl_wordsOf_0, [(0, [.one (.str block_0)]), (2, [.one (.ptr 128 0)]), (3, [.one (.ptr 192 0)]), (11, [.one (.int .i64 v_11)])], [(128, .ar 52 v_2r0), (192, .ar 52 w_3r0)])
  | .c1 block_0 i_4 v_11 v_14 v_2r0 w_3r0 => (todo_impl_wordsOf_1, [(0, [.one (.str block_0)]), (2, [.one (.ptr 128 0)]), (3, [.one (.ptr 192 0)]), (4, [.one (.int .i64 i_4)]), (11, [.one (.int .i64 v_11)]), (14, [.one (.int .i64 v_14)])], [(128, .ar 52 v_2r0), (192, .ar 52 w_3r0)])
  | .c2 t_6 v_2r0 w_3r0 => (todo_impl_wordsOf_2, [(2, [.one (.ptr 128 0)]), (3, [.one (.ptr 192 0)]), (6, [.one (.int .i64 t_6)])], [(128, .ar 52 v_2r0), (192, .ar 52 w_3r0)])
noncomputable def E_impl_wordsOf (impl_right : Int → Int → Option Int) (k : St_impl_wordsOf → Option (List Int)) (block_0 : ByteArray) : Option (List Int) :=
  k (.c0 block_0 (0 : Int) (List.replicate 64 (0 : Int)) (List.replicate 64 (0 : Int)))
noncomputable def B_impl_wordsOf (impl_right : Int → Int → Option Int) (k : St_impl_wordsOf → Option (List Int)) : St_impl_wordsOf → Option (List Int)
  | .c0 block_0 v_11 v_2r0 w_3r0 =>
    bif (decide (v_11 < 16)) then
      k (.c1 block_0 v_11 v_11 (0 : Int) v_2r0 w_3r0)
    else
      k (.c2 (16 : Int) v_2r0 w_3r0)
  | .c1 block_0 i_4 v_11 v_14 v_2r0 w_3r0 =>
    bif (decide (v_14 < 4)) then
      bif (Nat.beq 64 w_3r0.length) then
      bif ((decide (0 ≤ i_4)) && (decide (i_4 < (w_3r0.length : Int)))) then
      bif ((decide (0 ≤ (w64 ((w64 (4 * i_4)) + v_14)))) && (decide ((w64 ((w64 (4 * i_4)) + v_14)) < (block_0.size : Int)))) then
      bif (Nat.beq 64 w_3r0.length) then
      bif ((decide (0 ≤ i_4)) && (decide (i_4 < (w_3r0.length : Int)))) then
      k (.c1 block_0 i_4 v_11 (w64 (v_14 + 1)) v_2r0 (w_3r0.set i_4.toNat (w32 (((BitVec.toNat ((BitVec.ofInt (IntKind.bits IntKind.u32) (w32 ((w_3r0.getD i_4.toNat 0) * (2 ^ (Min.min (8 : Int).toNat (IntKind.bits IntKind.u32)))))) ||| (BitVec.ofInt (IntKind.bits IntKind.u32) (w32 (bt block_0 (w64 ((w64 (4 * i_4)) + v_14))))))) : Nat) : Int))))
      else none
      else none
      else none
      else none
      else none
    else
      k (.c0 block_0 (w64 (v_11 + 1)) v_2r0 w_3r0)
  | .c2 t_6 v_2r0 w_3r0 =>
    bif (decide (t_6 < 64)) then
      bif (Nat.beq 64 w_3r0.length) then
      bif ((decide (0 ≤ (w64 (t_6 - 15)))) && (decide ((w64 (t_6 - 15)) < (w_3r0.length : Int)))) then
      bif (Nat.beq 64 w_3r0.length) then
      bif ((decide (0 ≤ (w64 (t_6 - 2)))) && (decide ((w64 (t_6 - 2)) < (w_3r0.length : Int)))) then
      (impl_right (w_3r0.getD (w64 (t_6 - 15)).toNat 0) (7 : Int)).bind fun r0 =>
      (impl_right (w_3r0.getD (w64 (t_6 - 15)).toNat 0) (18 : Int)).bind fun r1 =>
      (impl_right (w_3r0.getD (w64 (t_6 - 2)).toNat 0) (17 : Int)).bind fun r2 =>
      (impl_right (w_3r0.getD (w64 (t_6 - 2)).toNat 0) (19 : Int)).bind fun r3 =>
      bif (Nat.beq 64 w_3r0.length) then
      bif ((decide (0 ≤ (w64 (t_6 - 7)))) && (decide ((w64 (t_6 - 7)) < (w_3r0.length : Int)))) then
      bif (Nat.beq 64 w_3r0.length) then
      bif ((decide (0 ≤ (w64 (t_6 - 16)))) && (decide ((w64 (t_6 - 16)) < (w_3r0.length : Int)))) then
      bif (Nat.beq 64 w_3r0.length) then
      bif ((decide (0 ≤ t_6)) && (decide (t_6 < (w_3r0.length : Int)))) then
      k (.c2 (w64 (t_6 + 1)) v_2r0 (w_3r0.set t_6.toNat (w32 ((w32 ((w32 ((w32 (((BitVec.toNat ((BitVec.ofInt (IntKind.bits IntKind.u32) (w32 (((BitVec.toNat ((BitVec.ofInt (IntKind.bits IntKind.u32) r2) ^^^ (BitVec.ofInt (IntKind.bits IntKind.u32) r3))) : Nat) : Int))) ^^^ (BitVec.ofInt (IntKind.bits IntKind.u32) (Int.fdiv (w_3r0.getD (w64 (t_6 - 2)).toNat 0) (2 ^ (Min.min (10 : Int).toNat (IntKind.bits IntKind.u32))))))) : Nat) : Int)) + (w_3r0.getD (w64 (t_6 - 7)).toNat 0))) + (w32 (((BitVec.toNat ((BitVec.ofInt (IntKind.bits IntKind.u32) (w32 (((BitVec.toNat ((BitVec.ofInt (IntKind.bits IntKind.u32) r0) ^^^ (BitVec.ofInt (IntKind.bits IntKind.u32) r1))) : Nat) : Int))) ^^^ (BitVec.ofInt (IntKind.bits IntKind.u32) (Int.fdiv (w_3r0.getD (w64 (t_6 - 15)).toNat 0) (2 ^ (Min.min (3 : Int).toNat (IntKind.bits IntKind.u32))))))) : Nat) : Int)))) + (w_3r0.getD (w64 (t_6 - 16)).toNat 0)))))
      else none
      else none
      else none
      else none
      else none
      else none
      else none
      else none
      else none
      else none
    else
      bif (Nat.beq 64 w_3r0.length) then
      bif ((Nat.beq w_3r0.length v_2r0.length) && (Nat.beq 64 w_3r0.length)) then
      bif ((Nat.beq 64 w_3r0.length) && true) then
      some w_3r0
      else none
      else none
      else none
noncomputable def L_impl_wordsOf : Nat → St_impl_wordsOf → Option (List Int)
  | 0, _ => none
  | m + 1, s => B_impl_wordsOf impl_right (L_impl_wordsOf m) s
noncomputable def impl_wordsOf (block_0 : ByteArray) : Option (List Int) := E_impl_wordsOf impl_right (L_impl_wordsOf gas) block_0
theorem e_impl_wordsOf (impl_right : Int → Int → Option Int) : EntryIs ctx PP 63 [] [(64, H_impl_right impl_right)] cv3 cv15 at_impl_wordsOf (fun k a => E_impl_wordsOf impl_right k a) := fun stop a => by kernel_rfl
theorem b_impl_wordsOf (impl_right : Int → Int → Option Int) : CutIs ctx PP 63 Tryd.f63 [] [(64, H_impl_right impl_right)] cv15 at_impl_wordsOf (B_impl_wordsOf impl_right) := fun stop s => by cases s <;> kernel_rfl
theorem i_impl_wordsOf : ∀ s s', at_impl_wordsOf s = at_impl_wordsOf s' → s = s' := by
  intro s s' h
  cases s with
  | c0 v0 v1 v2 v3 => cases s' with
    | c0 w0 w1 w2 w3 => cases h; rfl
    | c1 w0 w1 w2 w3 w4 w5 => exact (region_ne 3 6 h (by kernel_rfl) (by kernel_rfl) rfl).elim
    | c2 w0 w1 w2 => exact (region_ne 3 12 h (by kernel_rfl) (by kernel_rfl) rfl).elim
  | c1 v0 v1 v2 v3 v4 v5 => cases s' with
    | c0 w0 w1 w2 w3 => exact (region_ne 6 3 h (by kernel_rfl) (by kernel_rfl) rfl).elim
    | c1 w0 w1 w2 w3 w4 w5 => cases h; rfl
    | c2 w0 w1 w2 => exact (region_ne 6 12 h (by kernel_rfl) (by kernel_rfl) rfl).elim
  | c2 v0 v1 v2 => cases s' with
    | c0 w0 w1 w2 w3 => exact (region_ne 12 3 h (by kernel_rfl) (by kernel_rfl) rfl).elim
    | c1 w0 w1 w2 w3 w4 w5 => exact (region_ne 12 6 h (by kernel_rfl) (by kernel_rfl) rfl).elim
    | c2 w0 w1 w2 => cases h; rfl
theorem ok_impl_wordsOf : Tells ctx PP 63 cv3 cv15 (fun a => impl_wordsOf a) := fn_ok (hl_cons h_impl_right hl_nil) Tryd.func63 i_impl_wordsOf (fun _ => rfl) (fun _ _ => rfl) (b_impl_wordsOf impl_right) (e_impl_wordsOf impl_right) gas
noncomputable def H_impl_wordsOf {γ : Type} (F : ByteArray → Option (List Int)) : Hd ctx γ := hdl cv3.dec (fun a => F a) cv15.enc
theorem h_impl_wordsOf {γ : Type} : HdOk (γ := γ) PP 63 (H_impl_wordsOf impl_wordsOf) := hd_ok ok_impl_wordsOf
noncomputable def todo_impl_oneBlock_0 : List Go.Item := [.code (cAt (bodyOf Tryd.f56) [1, 1, 1, 0, 1, 0, 0, 0]), .code (cAt (bodyOf Tryd.f56) [1, 1, 1, 0, 1, 0, 0, 1]), .inLoop (cAt (bodyOf Tryd.f56) [1, 1, 1, 0, 1, 0, 0]), .inBlock 0, .code (cAt (bodyOf Tryd.f56) [1, 1, 1, 1])]
noncomputable def todo_impl_oneBlock_1 : List Go.Item := [.code (cAt (bodyOf Tryd.f56) [1, 1, 1, 1, 1, 0, 1, 0, 0, 0]), .code (cAt (bodyOf Tryd.f56) [1, 1, 1, 1, 1, 0, 1, 0, 0, 1]), .inLoop (cAt (bodyOf Tryd.f56) [1, 1, 1, 1, 1, 0, 1, 0, 0]), .inBlock 2, .code (cAt (bodyOf Tryd.f56) [1, 1, 1, 1, 1, 1])]
inductive St_impl_oneBlock where
  | c0 (a_6 : Int) (b_7 : Int) (c_8 : Int) (d_9 : Int) (e_10 : Int) (f_11 : Int) (g_12 : Int) (h_13 : Int) (v_37 : Int) (state_2r0 : (List Int)) (v_4r0 : (List Int)) (w_5r0 : (List Int))
  | c1 (v_109 : Int) (state_2r0 : (List Int)) (v_4r0 : (List Int)) (out_17r0 : (List Int))
noncomputable def at_impl_oneBlock : St_impl_oneBlock → LI
  | .c0 a_6 b_7 c_8 d_9 e_10 f_11 g_12 h_13 v_37 state_2r0 v_4r0 w_5r0 => (todo_impl_oneBlock_0, [(2, [.one (.ptr 128 0)]), (4, [.one (.ptr 256 0)]), (5, [.one (.ptr 320 0)]), (6, [.one (.int .u32 a_6)]), (7, [.one (.int .u32 b_7)]), (8, [.one (.int .u32 c_8)]), (9, [.one (.int .u32 d_9)]), (10, [.one (.int .u32 e_10)]), (11, [.one (.int .u32 f_11)]), (12, [.one (.int .u32 g_12)]), (13, [.one (.int .u32 h_13)]), (37, [.one (.int .i64 v_37)])], [(128, .ar 52 state_2r0), (256, .ar 52 v_4r0), (320, .ar 52 w_5r0)])
  | .c1 v_109 state_2r0 v_4r0 out_17r0 => (todo_impl_oneBlock_1, [(2, [.one (.ptr 128 0)]), (4, [.one (.ptr 256 0)]), (17, [.one (.ptr 1088 0)]), (109, [.one (.int .i64 v_109)])], [(128, .ar 52 state_2r0), (256, .ar 52 v_4r0), (1088, .ar 52 out_17r0)])
noncomputable def E_impl_oneBlock (impl_wordsOf : ByteArray → Option (List Int)) (impl_right : Int → Int → Option Int) (k : St_impl_oneBlock → Option (List Int)) (state_0 : (List Int)) (block_1 : ByteArray) : Option (List Int) :=
  (impl_wordsOf block_1).bind fun r0 =>
  bif ((Nat.beq r0.length (List.replicate 64 (0 : Int)).length) && (Nat.beq 64 r0.length)) then
  bif (Nat.beq 8 state_0.length) then
  bif ((decide ((0 : Int) ≤ (0 : Int))) && (decide (0 < (state_0.length : Int)))) then
  bif (Nat.beq 8 state_0.length) then
  bif ((decide ((0 : Int) ≤ (1 : Int))) && (decide (1 < (state_0.length : Int)))) then
  bif (Nat.beq 8 state_0.length) then
  bif ((decide ((0 : Int) ≤ (2 : Int))) && (decide (2 < (state_0.length : Int)))) then
  bif (Nat.beq 8 state_0.length) then
  bif ((decide ((0 : Int) ≤ (3 : Int))) && (decide (3 < (state_0.length : Int)))) then
  bif (Nat.beq 8 state_0.length) then
  bif ((decide ((0 : Int) ≤ (4 : Int))) && (decide (4 < (state_0.length : Int)))) then
  bif (Nat.beq 8 state_0.length) then
  bif ((decide ((0 : Int) ≤ (5 : Int))) && (decide (5 < (state_0.length : Int)))) then
  bif (Nat.beq 8 state_0.length) then
  bif ((decide ((0 : Int) ≤ (6 : Int))) && (decide (6 < (state_0.length : Int)))) then
  bif (Nat.beq 8 state_0.length) then
  bif ((decide ((0 : Int) ≤ (7 : Int))) && (decide (7 < (state_0.length : Int)))) then
  k (.c0 (state_0.getD (0 : Int).toNat 0) (state_0.getD (1 : Int).toNat 0) (state_0.getD (2 : Int).toNat 0) (state_0.getD (3 : Int).toNat 0) (state_0.getD (4 : Int).toNat 0) (state_0.getD (5 : Int).toNat 0) (state_0.getD (6 : Int).toNat 0) (state_0.getD (7 : Int).toNat 0) (0 : Int) state_0 [(0 : Int), (0 : Int), (0 : Int), (0 : Int), (0 : Int), (0 : Int), (0 : Int), (0 : Int)] r0)
  else none
  else none
  else none
  else none
  else none
  else none
  else none
  else none
  else none
  else none
  else none
  else none
  else none
  else none
  else none
  else none
  else none
noncomputable def B_impl_oneBlock (impl_wordsOf : ByteArray → Option (List Int)) (impl_right : Int → Int → Option Int) (k : St_impl_oneBlock → Option (List Int)) : St_impl_oneBlock → Option (List Int)
  | .c0 a_6 b_7 c_8 d_9 e_10 f_11 g_12 h_13 v_37 state_2r0 v_4r0 w_5r0 =>
    bif (decide (v_37 < 64)) then
      (impl_right e_10 (6 : Int)).bind fun r0 =>
      (impl_right e_10 (11 : Int)).bind fun r1 =>
      (impl_right e_10 (25 : Int)).bind fun r2 =>
      bif ((decide (0 ≤ v_37)) && (decide (v_37 < ((64 : Nat) : Int)))) then
      bif (Nat.blt v_37.toNat 64) then
      bif (Nat.beq 64 w_5r0.length) then
      bif ((decide (0 ≤ v_37)) && (decide (v_37 < (w_5r0.length : Int)))) then
      (impl_right a_6 (2 : Int)).bind fun r3 =>
      (impl_right a_6 (13 : Int)).bind fun r4 =>
      (impl_right a_6 (22 : Int)).bind fun r5 =>
      k (.c0 (w32 ((w32 ((w32 ((w32 ((w32 (h_13 + (w32 (((BitVec.toNat ((BitVec.ofInt (IntKind.bits IntKind.u32) (w32 (((BitVec.toNat ((BitVec.ofInt (IntKind.bits IntKind.u32) r0) ^^^ (BitVec.ofInt (IntKind.bits IntKind.u32) r1))) : Nat) : Int))) ^^^ (BitVec.ofInt (IntKind.bits IntKind.u32) r2))) : Nat) : Int)))) + (w32 (((BitVec.toNat ((BitVec.ofInt (IntKind.bits IntKind.u32) (w32 (((BitVec.toNat ((BitVec.ofInt (IntKind.bits IntKind.u32) e_10) &&& (BitVec.ofInt (IntKind.bits IntKind.u32) f_11))) : Nat) : Int))) ^^^ (BitVec.ofInt (IntKind.bits IntKind.u32) (w32 (((BitVec.toNat ((BitVec.ofInt (IntKind.bits IntKind.u32) (w32 (((BitVec.toNat ((BitVec.ofInt (IntKind.bits IntKind.u32) (ite ((IntKind.signed IntKind.u32) = true) (-(1 : Int)) (IntKind.max IntKind.u32))) ^^^ (BitVec.ofInt (IntKind.bits IntKind.u32) e_10))) : Nat) : Int))) &&& (BitVec.ofInt (IntKind.bits IntKind.u32) g_12))) : Nat) : Int))))) : Nat) : Int)))) + ([(1116352408 : Int), (1899447441 : Int), (3049323471 : Int), (3921009573 : Int), (961987163 : Int), (1508970993 : Int), (2453635748 : Int), (2870763221 : Int), (3624381080 : Int), (310598401 : Int), (607225278 : Int), (1426881987 : Int), (1925078388 : Int), (2162078206 : Int), (2614888103 : Int), (3248222580 : Int), (3835390401 : Int), (4022224774 : Int), (264347078 : Int), (604807628 : Int), (770255983 : Int), (1249150122 : Int), (1555081692 : Int), (1996064986 : Int), (2554220882 : Int), (2821834349 : Int), (2952996808 : Int), (3210313671 : Int), (3336571891 : Int), (3584528711 : Int), (113926993 : Int), (338241895 : Int), (666307205 : Int), (773529912 : Int), (1294757372 : Int), (1396182291 : Int), (1695183700 : Int), (1986661051 : Int), (2177026350 : Int), (2456956037 : Int), (2730485921 : Int), (2820302411 : Int), (3259730800 : Int), (3345764771 : Int), (3516065817 : Int), (3600352804 : Int), (4094571909 : Int), (275423344 : Int), (430227734 : Int), (506948616 : Int), (659060556 : Int), (883997877 : Int), (958139571 : Int), (1322822218 : Int), (1537002063 : Int), (1747873779 : Int), (1955562222 : Int), (2024104815 : Int), (2227730452 : Int), (2361852424 : Int), (2428436474 : Int), (2756734187 : Int), (3204031479 : Int), (3329325298 : Int)].getD v_37.toNat 0))) + (w_5r0.getD v_37.toNat 0))) + (w32 ((w32 (((BitVec.toNat ((BitVec.ofInt (IntKind.bits IntKind.u32) (w32 (((BitVec.toNat ((BitVec.ofInt (IntKind.bits IntKind.u32) r3) ^^^ (BitVec.ofInt (IntKind.bits IntKind.u32) r4))) : Nat) : Int))) ^^^ (BitVec.ofInt (IntKind.bits IntKind.u32) r5))) : Nat) : Int)) + (w32 (((BitVec.toNat ((BitVec.ofInt (IntKind.bits IntKind.u32) (w32 (((BitVec.toNat ((BitVec.ofInt (IntKind.bits IntKind.u32) (w32 (((BitVec.toNat ((BitVec.ofInt (IntKind.bits IntKind.u32) a_6) &&& (BitVec.ofInt (IntKind.bits IntKind.u32) b_7))) : Nat) : Int))) ^^^ (BitVec.ofInt (IntKind.bits IntKind.u32) (w32 (((BitVec.toNat ((BitVec.ofInt (IntKind.bits IntKind.u32) a_6) &&& (BitVec.ofInt (IntKind.bits IntKind.u32) c_8))) : Nat) : Int))))) : Nat) : Int))) ^^^ (BitVec.ofInt (IntKind.bits IntKind.u32) (w32 (((BitVec.toNat ((BitVec.ofInt (IntKind.bits IntKind.u32) b_7) &&& (BitVec.ofInt (IntKind.bits IntKind.u32) c_8))) : Nat) : Int))))) : Nat) : Int)))))) a_6 b_7 c_8 (w32 (d_9 + (w32 ((w32 ((w32 ((w32 (h_13 + (w32 (((BitVec.toNat ((BitVec.ofInt (IntKind.bits IntKind.u32) (w32 (((BitVec.toNat ((BitVec.ofInt (IntKind.bits IntKind.u32) r0) ^^^ (BitVec.ofInt (IntKind.bits IntKind.u32) r1))) : Nat) : Int))) ^^^ (BitVec.ofInt (IntKind.bits IntKind.u32) r2))) : Nat) : Int)))) + (w32 (((BitVec.toNat ((BitVec.ofInt (IntKind.bits IntKind.u32) (w32 (((BitVec.toNat ((BitVec.ofInt (IntKind.bits IntKind.u32) e_10) &&& (BitVec.ofInt (IntKind.bits IntKind.u32) f_11))) : Nat) : Int))) ^^^ (BitVec.ofInt (IntKind.bits IntKind.u32) (w32 (((BitVec.toNat ((BitVec.ofInt (IntKind.bits IntKind.u32) (w32 (((BitVec.toNat ((BitVec.ofInt (IntKind.bits IntKind.u32) (ite ((IntKind.signed IntKind.u32) = true) (-(1 : Int)) (IntKind.max IntKind.u32))) ^^^ (BitVec.ofInt (IntKind.bits IntKind.u32) e_10))) : Nat) : Int))) &&& (BitVec.ofInt (IntKind.bits IntKind.u32) g_12))) : Nat) : Int))))) : Nat) : Int)))) + ([(1116352408 : Int), (1899447441 : Int), (3049323471 : Int), (3921009573 : Int), (961987163 : Int), (1508970993 : Int), (2453635748 : Int), (2870763221 : Int), (3624381080 : Int), (310598401 : Int), (607225278 : Int), (1426881987 : Int), (1925078388 : Int), (2162078206 : Int), (2614888103 : Int), (3248222580 : Int), (3835390401 : Int), (4022224774 : Int), (264347078 : Int), (604807628 : Int), (770255983 : Int), (1249150122 : Int), (1555081692 : Int), (1996064986 : Int), (2554220882 : Int), (2821834349 : Int), (2952996808 : Int), (3210313671 : Int), (3336571891 : Int), (3584528711 : Int), (113926993 : Int), (338241895 : Int), (666307205 : Int), (773529912 : Int), (1294757372 : Int), (1396182291 : Int), (1695183700 : Int), (1986661051 : Int), (2177026350 : Int), (2456956037 : Int), (2730485921 : Int), (2820302411 : Int), (3259730800 : Int), (3345764771 : Int), (3516065817 : Int), (3600352804 : Int), (4094571909 : Int), (275423344 : Int), (430227734 : Int), (506948616 : Int), (659060556 : Int), (883997877 : Int), (958139571 : Int), (1322822218 : Int), (1537002063 : Int), (1747873779 : Int), (1955562222 : Int), (2024104815 : Int), (2227730452 : Int), (2361852424 : Int), (2428436474 : Int), (2756734187 : Int), (3204031479 : Int), (3329325298 : Int)].getD v_37.toNat 0))) + (w_5r0.getD v_37.toNat 0))))) e_10 f_11 g_12 (w64 (v_37 + 1)) state_2r0 v_4r0 w_5r0)
      else none
      else none
      else none
      else none
    else
      k (.c1 (0 : Int) state_2r0 v_4r0 [a_6, b_7, c_8, d_9, e_10, f_11, g_12, h_13])
  | .c1 v_109 state_2r0 v_4r0 out_17r0 =>
    bif (decide (v_109 < 8)) then
      bif (Nat.beq 8 out_17r0.length) then
      bif ((decide (0 ≤ v_109)) && (decide (v_109 < (out_17r0.length : Int)))) then
      bif (Nat.beq 8 state_2r0.length) then
      bif ((decide (0 ≤ v_109)) && (decide (v_109 < (state_2r0.length : Int)))) then
      bif (Nat.beq 8 out_17r0.length) then
      bif ((decide (0 ≤ v_109)) && (decide (v_109 < (out_17r0.length : Int)))) then
      k (.c1 (w64 (v_109 + 1)) state_2r0 v_4r0 (out_17r0.set v_109.toNat (w32 ((out_17r0.getD v_109.toNat 0) + (state_2r0.getD v_109.toNat 0)))))
      else none
      else none
      else none
      else none
      else none
      else none
    else
      bif (Nat.beq 8 out_17r0.length) then
      bif ((Nat.beq out_17r0.length v_4r0.length) && (Nat.beq 8 out_17r0.length)) then
      bif ((Nat.beq 8 out_17r0.length) && true) then
      some out_17r0
      else none
      else none
      else none
noncomputable def L_impl_oneBlock : Nat → St_impl_oneBlock → Option (List Int)
  | 0, _ => none
  | m + 1, s => B_impl_oneBlock impl_wordsOf impl_right (L_impl_oneBlock m) s
noncomputable def impl_oneBlock (state_0 : (List Int)) (block_1 : ByteArray) : Option (List Int) := E_impl_oneBlock impl_wordsOf impl_right (L_impl_oneBlock gas) state_0 block_1
theorem e_impl_oneBlock (impl_wordsOf : ByteArray → Option (List Int)) (impl_right : Int → Int → Option Int) : EntryIs ctx PP 56 [] [(63, H_impl_wordsOf impl_wordsOf), (64, H_impl_right impl_right)] cv18 cv15 at_impl_oneBlock (fun k a => E_impl_oneBlock impl_wordsOf impl_right k a.1 a.2) := fun stop a => by kernel_rfl
theorem b_impl_oneBlock (impl_wordsOf : ByteArray → Option (List Int)) (impl_right : Int → Int → Option Int) : CutIs ctx PP 56 Tryd.f56 [] [(63, H_impl_wordsOf impl_wordsOf), (64, H_impl_right impl_right)] cv15 at_impl_oneBlock (B_impl_oneBlock impl_wordsOf impl_right) := fun stop s => by cases s <;> kernel_rfl
theorem i_impl_oneBlock : ∀ s s', at_impl_oneBlock s = at_impl_oneBlock s' → s = s' := by
  intro s s' h
  cases s with
  | c0 v0 v1 v2 v3 v4 v5 v6 v7 v8 v9 v10 v11 => cases s' with
    | c0 w0 w1 w2 w3 w4 w5 w6 w7 w8 w9 w10 w11 => cases h; rfl
    | c1 w0 w1 w2 w3 => exact (region_ne 4 13 h (by kernel_rfl) (by kernel_rfl) rfl).elim
  | c1 v0 v1 v2 v3 => cases s' with
    | c0 w0 w1 w2 w3 w4 w5 w6 w7 w8 w9 w10 w11 => exact (region_ne 13 4 h (by kernel_rfl) (by kernel_rfl) rfl).elim
    | c1 w0 w1 w2 w3 => cases h; rfl
theorem ok_impl_oneBlock : Tells ctx PP 56 cv18 cv15 (fun a => impl_oneBlock a.1 a.2) := fn_ok (hl_cons h_impl_wordsOf (hl_cons h_impl_right hl_nil)) Tryd.func56 i_impl_oneBlock (fun _ => rfl) (fun _ _ => rfl) (b_impl_oneBlock impl_wordsOf impl_right) (e_impl_oneBlock impl_wordsOf impl_right) gas
noncomputable def H_impl_oneBlock {γ : Type} (F : (List Int) → ByteArray → Option (List Int)) : Hd ctx γ := hdl cv18.dec (fun a => F a.1 a.2) cv15.enc
theorem h_impl_oneBlock {γ : Type} : HdOk (γ := γ) PP 56 (H_impl_oneBlock impl_oneBlock) := hd_ok ok_impl_oneBlock
noncomputable def todo_impl_blocks_0 : List Go.Item := [.code (cAt (bodyOf Tryd.f36) [1, 0, 0, 0, 0, 0]), .code (cAt (bodyOf Tryd.f36) [1, 0, 0, 0, 0, 1]), .code (cAt (bodyOf Tryd.f36) [1, 0, 0, 0, 1]), .inLoop (cAt (bodyOf Tryd.f36) [1, 0, 0, 0]), .inBlock 0, .code (cAt (bodyOf Tryd.f36) [1, 1])]
inductive St_impl_blocks where
  | c0 (s_1 : ByteArray) (state_2r0 : (List Int)) (v_4r0 : (List Int))
noncomputable def at_impl_blocks : St_impl_blocks → LI
  | .c0 s_1 state_2r0 v_4r0 => (todo_impl_blocks_0, [(1, [.one (.str s_1)]), (2, [.one (.ptr 128 0)]), (4, [.one (.ptr 256 0)])], [(128, .ar 52 state_2r0), (256, .ar 52 v_4r0)])
noncomputable def E_impl_blocks (impl_oneBlock : (List Int) → ByteArray → Option (List Int)) (k : St_impl_blocks → Option ((List Int) × ByteArray)) (state_0 : (List Int)) (s_1 : ByteArray) : Option ((List Int) × ByteArray) :=
  k (.c0 s_1 state_0 [(0 : Int), (0 : Int), (0 : Int), (0 : Int), (0 : Int), (0 : Int), (0 : Int), (0 : Int)])
noncomputable def B_impl_blocks (impl_oneBlock : (List Int) → ByteArray → Option (List Int)) (k : St_impl_blocks → Option ((List Int) × ByteArray)) : St_impl_blocks → Option ((List Int) × ByteArray)
  | .c0 s_1 state_2r0 v_4r0 =>
    bif (decide ((s_1.size : Int) ≥ 64)) then
      bif (Nat.beq 8 state_2r0.length) then
      bif ((decide ((0 : Int) ≤ (64 : Int))) && (decide (64 ≤ (s_1.size : Int)))) then
      (impl_oneBlock state_2r0 (s_1.extract 0 (64 : Int).toNat)).bind fun r0 =>
      bif ((Nat.beq r0.length state_2r0.length) && (Nat.beq 8 r0.length)) then
      bif ((decide ((0 : Int) ≤ (64 : Int))) && (decide (64 ≤ (s_1.size : Int)))) then
      k (.c0 (s_1.extract (64 : Int).toNat s_1.size) r0 v_4r0)
      else none
      else none
      else none
      else none
    else
      bif (Nat.beq 8 state_2r0.length) then
      bif ((Nat.beq state_2r0.length v_4r0.length) && (Nat.beq 8 state_2r0.length)) then
      bif ((Nat.beq 8 state_2r0.length) && true) then
      some (state_2r0, s_1)
      else none
      else none
      else none
noncomputable def L_impl_blocks : Nat → St_impl_blocks → Option ((List Int) × ByteArray)
  | 0, _ => none
  | m + 1, s => B_impl_blocks impl_oneBlock (L_impl_blocks m) s
noncomputable def impl_blocks (state_0 : (List Int)) (s_1 : ByteArray) : Option ((List Int) × ByteArray) := E_impl_blocks impl_oneBlock (L_impl_blocks gas) state_0 s_1
theorem e_impl_blocks (impl_oneBlock : (List Int) → ByteArray → Option (List Int)) : EntryIs ctx PP 36 [] [(56, H_impl_oneBlock impl_oneBlock)] cv18 cv18 at_impl_blocks (fun k a => E_impl_blocks impl_oneBlock k a.1 a.2) := fun stop a => by kernel_rfl
theorem b_impl_blocks (impl_oneBlock : (List Int) → ByteArray → Option (List Int)) : CutIs ctx PP 36 Tryd.f36 [] [(56, H_impl_oneBlock impl_oneBlock)] cv18 at_impl_blocks (B_impl_blocks impl_oneBlock) := fun stop s => by cases s <;> kernel_rfl
theorem i_impl_blocks : ∀ s s', at_impl_blocks s = at_impl_blocks s' → s = s' := by
  intro s s' h
  cases s with
  | c0 v0 v1 v2 => cases s' with
    | c0 w0 w1 w2 => cases h; rfl
theorem ok_impl_blocks : Tells ctx PP 36 cv18 cv18 (fun a => impl_blocks a.1 a.2) := fn_ok (hl_cons h_impl_oneBlock hl_nil) Tryd.func36 i_impl_blocks (fun _ => rfl) (fun _ _ => rfl) (b_impl_blocks impl_oneBlock) (e_impl_blocks impl_oneBlock) gas
noncomputable def H_impl_blocks {γ : Type} (F : (List Int) → ByteArray → Option ((List Int) × ByteArray)) : Hd ctx γ := hdl cv18.dec (fun a => F a.1 a.2) cv18.enc
theorem h_impl_blocks {γ : Type} : HdOk (γ := γ) PP 36 (H_impl_blocks impl_blocks) := hd_ok ok_impl_blocks
noncomputable def todo_impl_stateText_0 : List Go.Item := [.code (cAt (bodyOf Tryd.f39) [1, 1, 0, 1, 0, 0, 0]), .code (cAt (bodyOf Tryd.f39) [1, 1, 0, 1, 0, 0, 1]), .inLoop (cAt (bodyOf Tryd.f39) [1, 1, 0, 1, 0, 0]), .inBlock 0, .code (cAt (bodyOf Tryd.f39) [1, 1, 1])]
inductive St_impl_stateText where
  | c0 (out_3 : ByteArray) (v_6 : (List Int)) (v_7 : Int)
noncomputable def at_impl_stateText : St_impl_stateText → LI
  | .c0 out_3 v_6 v_7 => (todo_impl_stateText_0, [(3, [.one (.str out_3)]), (6, [.arr 52 v_6]), (7, [.one (.int .i64 v_7)])], [])
noncomputable def E_impl_stateText (impl_fourBytes : Int → Option ByteArray) (k : St_impl_stateText → Option ByteArray) (state_0 : (List Int)) : Option ByteArray :=
  bif (Nat.beq 8 state_0.length) then
  k (.c0 (⟨#[]⟩ : ByteArray) state_0 (0 : Int))
  else none
noncomputable def B_impl_stateText (impl_fourBytes : Int → Option ByteArray) (k : St_impl_stateText → Option ByteArray) : St_impl_stateText → Option ByteArray
  | .c0 out_3 v_6 v_7 =>
    bif (decide (v_7 < 8)) then
      bif (Nat.beq 8 v_6.length) then
      bif ((decide (0 ≤ v_7)) && (decide (v_7 < (v_6.length : Int)))) then
      (impl_fourBytes (v_6.getD v_7.toNat 0)).bind fun r0 =>
      bif (decide ((out_3.size + r0.size) ≤ 9223372036854775807)) then
      k (.c0 (out_3 ++ r0) v_6 (w64 (v_7 + 1)))
      else none
      else none
      else none
    else
      some out_3
noncomputable def L_impl_stateText : Nat → St_impl_stateText → Option ByteArray
  | 0, _ => none
  | m + 1, s => B_impl_stateText impl_fourBytes (L_impl_stateText m) s
noncomputable def impl_stateText (state_0 : (List Int)) : Option ByteArray := E_impl_stateText impl_fourBytes (L_impl_stateText gas) state_0
theorem e_impl_stateText (impl_fourBytes : Int → Option ByteArray) : EntryIs ctx PP 39 [] [(58, H_impl_fourBytes impl_fourBytes)] cv15 cv3 at_impl_stateText (fun k a => E_impl_stateText impl_fourBytes k a) := fun stop a => by kernel_rfl
theorem b_impl_stateText (impl_fourBytes : Int → Option ByteArray) : CutIs ctx PP 39 Tryd.f39 [] [(58, H_impl_fourBytes impl_fourBytes)] cv3 at_impl_stateText (B_impl_stateText impl_fourBytes) := fun stop s => by cases s <;> kernel_rfl
theorem i_impl_stateText : ∀ s s', at_impl_stateText s = at_impl_stateText s' → s = s' := by
  intro s s' h
  cases s with
  | c0 v0 v1 v2 => cases s' with
    | c0 w0 w1 w2 => cases h; rfl
theorem ok_impl_stateText : Tells ctx PP 39 cv15 cv3 (fun a => impl_stateText a) := fn_ok (hl_cons h_impl_fourBytes hl_nil) Tryd.func39 i_impl_stateText (fun _ => rfl) (fun _ _ => rfl) (b_impl_stateText impl_fourBytes) (e_impl_stateText impl_fourBytes) gas
noncomputable def H_impl_stateText {γ : Type} (F : (List Int) → Option ByteArray) : Hd ctx γ := hdl cv15.dec (fun a => F a) cv3.enc
theorem h_impl_stateText {γ : Type} : HdOk (γ := γ) PP 39 (H_impl_stateText impl_stateText) := hd_ok ok_impl_stateText
noncomputable def E_impl_DigestOf (impl_firstState : Option (List Int)) (impl_ending : Int → Option ByteArray) (impl_blocks : (List Int) → ByteArray → Option ((List Int) × ByteArray)) (impl_stateText : (List Int) → Option ByteArray) (s_0 : ByteArray) : Option ByteArray :=
  impl_firstState.bind fun r0 =>
  (impl_ending (s_0.size : Int)).bind fun r1 =>
  bif (decide ((s_0.size + r1.size) ≤ 9223372036854775807)) then
  (impl_blocks r0 (s_0 ++ r1)).bind fun r2 =>
  bif ((Nat.beq r2.1.length 8) && (Nat.beq 8 r2.1.length)) then
  bif (Nat.beq 8 r2.1.length) then
  (impl_stateText r2.1).bind fun r3 =>
  some r3
  else none
  else none
  else none
noncomputable def impl_DigestOf (s_0 : ByteArray) : Option ByteArray := E_impl_DigestOf impl_firstState impl_ending impl_blocks impl_stateText s_0
theorem e_impl_DigestOf (impl_firstState : Option (List Int)) (impl_ending : Int → Option ByteArray) (impl_blocks : (List Int) → ByteArray → Option ((List Int) × ByteArray)) (impl_stateText : (List Int) → Option ByteArray) : EntryIs0 ctx PP 20 [] [(37, H_impl_firstState impl_firstState), (38, H_impl_ending impl_ending), (36, H_impl_blocks impl_blocks), (39, H_impl_stateText impl_stateText)] cv3 cv3 (fun a => E_impl_DigestOf impl_firstState impl_ending impl_blocks impl_stateText a) := fun a => by kernel_rfl
theorem ok_impl_DigestOf : Tells ctx PP 20 cv3 cv3 (fun a => impl_DigestOf a) := fn_ok0 (hl_cons h_impl_firstState (hl_cons h_impl_ending (hl_cons h_impl_blocks (hl_cons h_impl_stateText hl_nil)))) Tryd.func20 (e_impl_DigestOf impl_firstState impl_ending impl_blocks impl_stateText)
noncomputable def H_impl_DigestOf {γ : Type} (F : ByteArray → Option ByteArray) : Hd ctx γ := hdl cv3.dec (fun a => F a) cv3.enc
theorem h_impl_DigestOf {γ : Type} : HdOk (γ := γ) PP 20 (H_impl_DigestOf impl_DigestOf) := hd_ok ok_impl_DigestOf
noncomputable def E_impl_BookNew (impl_DigestOf : ByteArray → Option ByteArray) (impl_zeros : Int → Option ByteArray)  : Option SBook :=
  (impl_DigestOf (⟨#[]⟩ : ByteArray)).bind fun r0 =>
  (impl_zeros (32 : Int)).bind fun r1 =>
  some (⟨r0, (0 : Int), [], (0 : Int), r1, (0 : Int)⟩ : SBook)
noncomputable def impl_BookNew  : Option SBook := E_impl_BookNew impl_DigestOf impl_zeros 
theorem e_impl_BookNew (impl_DigestOf : ByteArray → Option ByteArray) (impl_zeros : Int → Option ByteArray) : EntryIs0 ctx PP 15 [] [(20, H_impl_DigestOf impl_DigestOf), (29, H_impl_zeros impl_zeros)] cv0 cv26 (fun _ => E_impl_BookNew impl_DigestOf impl_zeros ) := fun a => by kernel_rfl
theorem ok_impl_BookNew : Tells ctx PP 15 cv0 cv26 (fun _ => impl_BookNew ) := fn_ok0 (hl_cons h_impl_DigestOf (hl_cons h_impl_zeros hl_nil)) Tryd.func15 (e_impl_BookNew impl_DigestOf impl_zeros)
noncomputable def H_impl_BookNew {γ : Type} (F : Option SBook) : Hd ctx γ := hdl cv0.dec (fun _ => F ) cv26.enc
theorem h_impl_BookNew {γ : Type} : HdOk (γ := γ) PP 15 (H_impl_BookNew impl_BookNew) := hd_ok ok_impl_BookNew
noncomputable def E_laws_eqThing  (a_0 : SThing) (b_1 : SThing) : Option Bool :=
  bif (a_0.fId != b_1.fId) then
    some false
  else
    bif (a_0.fKind != b_1.fKind) then
      some false
    else
      bif (!(a_0.fHidden == b_1.fHidden)) then
        some false
      else
        bif (!(a_0.fFixed == b_1.fFixed)) then
          some false
        else
          bif (!(a_0.fSigns == b_1.fSigns)) then
            some false
          else
            bif (!(a_0.fWraps == b_1.fWraps)) then
              some false
            else
              bif (!((ByteArray.toList a_0.fValue) == (ByteArray.toList b_1.fValue))) then
                some false
              else
                bif (a_0.fNext != b_1.fNext) then
                  some false
                else
                  some true
noncomputable def laws_eqThing (a_0 : SThing) (b_1 : SThing) : Option Bool := E_laws_eqThing  a_0 b_1
theorem e_laws_eqThing  : EntryIs0 ctx PP 9 [] [] cv19 cv6 (fun a => E_laws_eqThing  a.1 a.2) := fun a => by kernel_rfl
theorem ok_laws_eqThing : Tells ctx PP 9 cv19 cv6 (fun a => laws_eqThing a.1 a.2) := fn_ok0 hl_nil Tryd.func9 (e_laws_eqThing )
noncomputable def H_laws_eqThing {γ : Type} (F : SThing → SThing → Option Bool) : Hd ctx γ := hdl cv19.dec (fun a => F a.1 a.2) cv6.enc
theorem h_laws_eqThing {γ : Type} : HdOk (γ := γ) PP 9 (H_laws_eqThing laws_eqThing) := hd_ok ok_laws_eqThing
noncomputable def todo_laws_eqThingS_0 : List Go.Item := [.code (cAt (bodyOf Tryd.f30) [1, 1, 0, 1, 0, 0, 0, 0]), .code (cAt (bodyOf Tryd.f30) [1, 1, 0, 1, 0, 0, 0, 1]), .code (cAt (bodyOf Tryd.f30) [1, 1, 0, 1, 0, 0, 1]), .inLoop (cAt (bodyOf Tryd.f30) [1, 1, 0, 1, 0, 0]), .inBlock 0, .code (cAt (bodyOf Tryd.f30) [1, 1, 1])]
inductive St_laws_eqThingS where
  | c0 (a_0 : (List SThing)) (b_1 : (List SThing)) (i_5 : Int)
noncomputable def at_laws_eqThingS : St_laws_eqThingS → LI
  | .c0 a_0 b_1 i_5 => (todo_laws_eqThingS_0, [(0, [.one (.rsl 23 a_0)]), (1, [.one (.rsl 23 b_1)]), (5, [.one (.int .i64 i_5)])], [])
noncomputable def E_laws_eqThingS (laws_eqThing : SThing → SThing → Option Bool) (k : St_laws_eqThingS → Option Bool) (a_0 : (List SThing)) (b_1 : (List SThing)) : Option Bool :=
  bif ((a_0.length : Int) != (b_1.length : Int)) then
    some false
  else
    k (.c0 a_0 b_1 (0 : Int))
noncomputable def B_laws_eqThingS (laws_eqThing : SThing → SThing → Option Bool) (k : St_laws_eqThingS → Option Bool) : St_laws_eqThingS → Option Bool
  | .c0 a_0 b_1 i_5 =>
    bif (decide (i_5 < (a_0.length : Int))) then
      bif ((decide (0 ≤ i_5)) && (decide (i_5 < (a_0.length : Int)))) then
      bif ((decide (0 ≤ i_5)) && (decide (i_5 < (b_1.length : Int)))) then
      (laws_eqThing (a_0.getD i_5.toNat (⟨(0 : Int), (0 : Int), false, false, false, false, (⟨#[]⟩ : ByteArray), (0 : Int)⟩ : SThing)) (b_1.getD i_5.toNat (⟨(0 : Int), (0 : Int), false, false, false, false, (⟨#[]⟩ : ByteArray), (0 : Int)⟩ : SThing))).bind fun r0 =>
      bif (!r0) then
        some false
      else
        k (.c0 a_0 b_1 (w64 (i_5 + 1)))
      else none
      else none
    else
      some true
noncomputable def L_laws_eqThingS : Nat → St_laws_eqThingS → Option Bool
  | 0, _ => none
  | m + 1, s => B_laws_eqThingS laws_eqThing (L_laws_eqThingS m) s
noncomputable def laws_eqThingS (a_0 : (List SThing)) (b_1 : (List SThing)) : Option Bool := E_laws_eqThingS laws_eqThing (L_laws_eqThingS gas) a_0 b_1
theorem e_laws_eqThingS (laws_eqThing : SThing → SThing → Option Bool) : EntryIs ctx PP 30 [] [(9, H_laws_eqThing laws_eqThing)] cv27 cv6 at_laws_eqThingS (fun k a => E_laws_eqThingS laws_eqThing k a.1 a.2) := fun stop a => by kernel_rfl
theorem b_laws_eqThingS (laws_eqThing : SThing → SThing → Option Bool) : CutIs ctx PP 30 Tryd.f30 [] [(9, H_laws_eqThing laws_eqThing)] cv6 at_laws_eqThingS (B_laws_eqThingS laws_eqThing) := fun stop s => by cases s <;> kernel_rfl
theorem i_laws_eqThingS : ∀ s s', at_laws_eqThingS s = at_laws_eqThingS s' → s = s' := by
  intro s s' h
  cases s with
  | c0 v0 v1 v2 => cases s' with
    | c0 w0 w1 w2 => cases h; rfl
theorem ok_laws_eqThingS : Tells ctx PP 30 cv27 cv6 (fun a => laws_eqThingS a.1 a.2) := fn_ok (hl_cons h_laws_eqThing hl_nil) Tryd.func30 i_laws_eqThingS (fun _ => rfl) (fun _ _ => rfl) (b_laws_eqThingS laws_eqThing) (e_laws_eqThingS laws_eqThing) gas
noncomputable def H_laws_eqThingS {γ : Type} (F : (List SThing) → (List SThing) → Option Bool) : Hd ctx γ := hdl cv27.dec (fun a => F a.1 a.2) cv6.enc
theorem h_laws_eqThingS {γ : Type} : HdOk (γ := γ) PP 30 (H_laws_eqThingS laws_eqThingS) := hd_ok ok_laws_eqThingS
noncomputable def E_laws_eqBook (laws_eqThingS : (List SThing) → (List SThing) → Option Bool) (a_0 : SBook) (b_1 : SBook) : Option Bool :=
  bif (!((ByteArray.toList a_0.fWord) == (ByteArray.toList b_1.fWord))) then
    some false
  else
    bif (a_0.fTries != b_1.fTries) then
      some false
    else
      (laws_eqThingS a_0.fThings b_1.fThings).bind fun r0 =>
      bif (!r0) then
        some false
      else
        bif (a_0.fLast != b_1.fLast) then
          some false
        else
          bif (!((ByteArray.toList a_0.fChain) == (ByteArray.toList b_1.fChain))) then
            some false
          else
            bif (a_0.fCount != b_1.fCount) then
              some false
            else
              some true
noncomputable def laws_eqBook (a_0 : SBook) (b_1 : SBook) : Option Bool := E_laws_eqBook laws_eqThingS a_0 b_1
theorem e_laws_eqBook (laws_eqThingS : (List SThing) → (List SThing) → Option Bool) : EntryIs0 ctx PP 16 [] [(30, H_laws_eqThingS laws_eqThingS)] cv28 cv6 (fun a => E_laws_eqBook laws_eqThingS a.1 a.2) := fun a => by kernel_rfl
theorem ok_laws_eqBook : Tells ctx PP 16 cv28 cv6 (fun a => laws_eqBook a.1 a.2) := fn_ok0 (hl_cons h_laws_eqThingS hl_nil) Tryd.func16 (e_laws_eqBook laws_eqThingS)
noncomputable def H_laws_eqBook {γ : Type} (F : SBook → SBook → Option Bool) : Hd ctx γ := hdl cv28.dec (fun a => F a.1 a.2) cv6.enc
theorem h_laws_eqBook {γ : Type} : HdOk (γ := γ) PP 16 (H_laws_eqBook laws_eqBook) := hd_ok ok_laws_eqBook
noncomputable def todo_laws_markText_0 : List Go.Item := [.code (cAt (bodyOf Tryd.f49) [1, 1, 1, 0, 0, 0, 0, 0]), .code (cAt (bodyOf Tryd.f49) [1, 1, 1, 0, 0, 0, 0, 1]), .code (cAt (bodyOf Tryd.f49) [1, 1, 1, 0, 0, 0, 1]), .inLoop (cAt (bodyOf Tryd.f49) [1, 1, 1, 0, 0, 0]), .inBlock 0, .code (cAt (bodyOf Tryd.f49) [1, 1, 1, 1])]
inductive St_laws_markText where
  | c0 (k_0 : Int) (out_3 : ByteArray)
noncomputable def at_laws_markText : St_laws_markText → LI
  | .c0 k_0 out_3 => (todo_laws_markText_0, [(0, [.one (.int .i64 k_0)]), (3, [.one (.str out_3)])], [])
noncomputable def E_laws_markText  (k : St_laws_markText → Option ByteArray) (k_0 : Int) : Option ByteArray :=
  bif (decide (k_0 ≤ 0)) then
    some (⟨#[109, 48]⟩ : ByteArray)
  else
    k (.c0 k_0 (⟨#[]⟩ : ByteArray))
noncomputable def B_laws_markText  (k : St_laws_markText → Option ByteArray) : St_laws_markText → Option ByteArray
  | .c0 k_0 out_3 =>
    bif (decide (k_0 > 0)) then
      bif (decide (((ofBytes [(w8 (w64 (48 + (k_0.tmod 10))))]).size + out_3.size) ≤ 9223372036854775807)) then
      k (.c0 (w64 (k_0.tdiv 10)) ((ofBytes [(w8 (w64 (48 + (k_0.tmod 10))))]) ++ out_3))
      else none
    else
      bif (decide (((⟨#[109]⟩ : ByteArray).size + out_3.size) ≤ 9223372036854775807)) then
      some ((⟨#[109]⟩ : ByteArray) ++ out_3)
      else none
noncomputable def L_laws_markText : Nat → St_laws_markText → Option ByteArray
  | 0, _ => none
  | m + 1, s => B_laws_markText  (L_laws_markText m) s
noncomputable def laws_markText (k_0 : Int) : Option ByteArray := E_laws_markText  (L_laws_markText gas) k_0
theorem e_laws_markText  : EntryIs ctx PP 49 [] [] cv16 cv3 at_laws_markText (fun k a => E_laws_markText  k a) := fun stop a => by kernel_rfl
theorem b_laws_markText  : CutIs ctx PP 49 Tryd.f49 [] [] cv3 at_laws_markText (B_laws_markText ) := fun stop s => by cases s <;> kernel_rfl
theorem i_laws_markText : ∀ s s', at_laws_markText s = at_laws_markText s' → s = s' := by
  intro s s' h
  cases s with
  | c0 v0 v1 => cases s' with
    | c0 w0 w1 => cases h; rfl
theorem ok_laws_markText : Tells ctx PP 49 cv16 cv3 (fun a => laws_markText a) := fn_ok hl_nil Tryd.func49 i_laws_markText (fun _ => rfl) (fun _ _ => rfl) (b_laws_markText ) (e_laws_markText ) gas
noncomputable def H_laws_markText {γ : Type} (F : Int → Option ByteArray) : Hd ctx γ := hdl cv16.dec (fun a => F a) cv3.enc
theorem h_laws_markText {γ : Type} : HdOk (γ := γ) PP 49 (H_laws_markText laws_markText) := hd_ok ok_laws_markText
noncomputable def todo_laws_markThingS_0 : List Go.Item := [.code (cAt (bodyOf Tryd.f31) [1, 0, 1, 0, 0, 0, 0]), .code (cAt (bodyOf Tryd.f31) [1, 0, 1, 0, 0, 0, 1]), .code (cAt (bodyOf Tryd.f31) [1, 0, 1, 0, 0, 1]), .inLoop (cAt (bodyOf Tryd.f31) [1, 0, 1, 0, 0]), .inBlock 0, .code (cAt (bodyOf Tryd.f31) [1, 1])]
noncomputable def todo_laws_markThingS_1 : List Go.Item := [.code (cAt (bodyOf Tryd.f31) [1, 0, 1, 0, 0, 1, 0, 0, 1, 1, 0]), .code (cAt (bodyOf Tryd.f31) [1, 0, 1, 0, 0, 1, 0, 0, 1, 1, 1]), .inBlock 1, .code (cAt (bodyOf Tryd.f31) [1, 0, 1, 0, 0, 1, 1]), .inLoop (cAt (bodyOf Tryd.f31) [1, 0, 1, 0, 0]), .inBlock 0, .code (cAt (bodyOf Tryd.f31) [1, 1])]
noncomputable def todo_laws_markThingS_2 : List Go.Item := [.code (cAt (bodyOf Tryd.f31) [1, 0, 1, 0, 0, 1, 0, 0, 1, 1, 1, 1, 0]), .code (cAt (bodyOf Tryd.f31) [1, 0, 1, 0, 0, 1, 0, 0, 1, 1, 1, 1, 1]), .inBlock 1, .code (cAt (bodyOf Tryd.f31) [1, 0, 1, 0, 0, 1, 1]), .inLoop (cAt (bodyOf Tryd.f31) [1, 0, 1, 0, 0]), .inBlock 0, .code (cAt (bodyOf Tryd.f31) [1, 1])]
noncomputable def todo_laws_markThingS_3 : List Go.Item := [.code (cAt (bodyOf Tryd.f31) [1, 0, 1, 0, 0, 1, 0, 0, 1, 1, 1, 1, 1, 1, 0]), .code (cAt (bodyOf Tryd.f31) [1, 0, 1, 0, 0, 1, 0, 0, 1, 1, 1, 1, 1, 1, 1]), .inBlock 1, .code (cAt (bodyOf Tryd.f31) [1, 0, 1, 0, 0, 1, 1]), .inLoop (cAt (bodyOf Tryd.f31) [1, 0, 1, 0, 0]), .inBlock 0, .code (cAt (bodyOf Tryd.f31) [1, 1])]
noncomputable def todo_laws_markThingS_4 : List Go.Item := [.code (cAt (bodyOf Tryd.f31) [1, 0, 1, 0, 0, 1, 0, 0, 1, 1, 1, 1, 1, 1, 1, 1, 0]), .code (cAt (bodyOf Tryd.f31) [1, 0, 1, 0, 0, 1, 0, 0, 1, 1, 1, 1, 1, 1, 1, 1, 1]), .inBlock 1, .code (cAt (bodyOf Tryd.f31) [1, 0, 1, 0, 0, 1, 1]), .inLoop (cAt (bodyOf Tryd.f31) [1, 0, 1, 0, 0]), .inBlock 0, .code (cAt (bodyOf Tryd.f31) [1, 1])]
noncomputable def todo_laws_markThingS_5 : List Go.Item := [.code (cAt (bodyOf Tryd.f31) [1, 0, 1, 0, 0, 1, 0, 0, 1, 1, 1, 1, 1, 1, 1, 1, 1, 1, 0]), .code (cAt (bodyOf Tryd.f31) [1, 0, 1, 0, 0, 1, 0, 0, 1, 1, 1, 1, 1, 1, 1, 1, 1, 1, 1]), .inBlock 1, .code (cAt (bodyOf Tryd.f31) [1, 0, 1, 0, 0, 1, 1]), .inLoop (cAt (bodyOf Tryd.f31) [1, 0, 1, 0, 0]), .inBlock 0, .code (cAt (bodyOf Tryd.f31) [1, 1])]
noncomputable def todo_laws_markThingS_6 : List Go.Item := [.code (cAt (bodyOf Tryd.f31) [1, 0, 1, 0, 0, 1, 0, 0, 1, 1, 1, 1, 1, 1, 1, 1, 1, 1, 1, 1, 0]), .code (cAt (bodyOf Tryd.f31) [1, 0, 1, 0, 0, 1, 0, 0, 1, 1, 1, 1, 1, 1, 1, 1, 1, 1, 1, 1, 1]), .inBlock 1, .code (cAt (bodyOf Tryd.f31) [1, 0, 1, 0, 0, 1, 1]), .inLoop (cAt (bodyOf Tryd.f31) [1, 0, 1, 0, 0]), .inBlock 0, .code (cAt (bodyOf Tryd.f31) [1, 1])]
noncomputable def todo_laws_markThingS_7 : List Go.Item := [.code (cAt (bodyOf Tryd.f31) [1, 0, 1, 0, 0, 1, 0, 0, 1, 1, 1, 1, 1, 1, 1, 1, 1, 1, 1, 1, 1, 1, 0]), .code (cAt (bodyOf Tryd.f31) [1, 0, 1, 0, 0, 1, 0, 0, 1, 1, 1, 1, 1, 1, 1, 1, 1, 1, 1, 1, 1, 1, 1]), .inBlock 1, .code (cAt (bodyOf Tryd.f31) [1, 0, 1, 0, 0, 1, 1]), .inLoop (cAt (bodyOf Tryd.f31) [1, 0, 1, 0, 0]), .inBlock 0, .code (cAt (bodyOf Tryd.f31) [1, 1])]
inductive St_laws_markThingS where
  | c0 (k_1 : Int) (i_5 : Int) (a_0r1 : (List SThing))
  | c1 (k_1 : Int) (i_5 : Int) (a_0r1 : (List SThing))
  | c2 (k_1 : Int) (i_5 : Int) (a_0r1 : (List SThing))
  | c3 (k_1 : Int) (i_5 : Int) (a_0r1 : (List SThing))
  | c4 (k_1 : Int) (i_5 : Int) (a_0r1 : (List SThing))
  | c5 (k_1 : Int) (i_5 : Int) (a_0r1 : (List SThing))
  | c6 (k_1 : Int) (i_5 : Int) (a_0r1 : (List SThing))
  | c7 (k_1 : Int) (i_5 : Int) (a_0r1 : (List SThing))
noncomputable def at_laws_markThingS : St_laws_markThingS → LI
  | .c0 k_1 i_5 a_0r1 => (todo_laws_markThingS_0, [(0, [.one (.own 1)]), (1, [.one (.int .i64 k_1)]), (5, [.one (.int .i64 i_5)])], [(1, .io 23 a_0r1)])
  | .c1 k_1 i_5 a_0r1 => (todo_laws_markThingS_1, [(0, [.one (.own 1)]), (1, [.one (.int .i64 k_1)]), (5, [.one (.int .i64 i_5)])], [(1, .io 23 a_0r1)])
  | .c2 k_1 i_5 a_0r1 => (todo_laws_markThingS_2, [(0, [.one (.own 1)]), (1, [.one (.int .i64 k_1)]), (5, [.one (.int .i64 i_5)])], [(1, .io 23 a_0r1)])
  | .c3 k_1 i_5 a_0r1 => (todo_laws_markThingS_3, [(0, [.one (.own 1)]), (1, [.one (.int .i64 k_1)]), (5, [.one (.int .i64 i_5)])], [(1, .io 23 a_0r1)])
  | .c4 k_1 i_5 a_0r1 => (todo_laws_markThingS_4, [(0, [.one (.own 1)]), (1, [.one (.int .i64 k_1)]), (5, [.one (.int .i64 i_5)])], [(1, .io 23 a_0r1)])
  | .c5 k_1 i_5 a_0r1 => (todo_laws_markThingS_5, [(0, [.one (.own 1)]), (1, [.one (.int .i64 k_1)]), (5, [.one (.int .i64 i_5)])], [(1, .io 23 a_0r1)])
  | .c6 k_1 i_5 a_0r1 => (todo_laws_markThingS_6, [(0, [.one (.own 1)]), (1, [.one (.int .i64 k_1)]), (5, [.one (.int .i64 i_5)])], [(1, .io 23 a_0r1)])
  | .c7 k_1 i_5 a_0r1 => (todo_laws_markThingS_7, [(0, [.one (.own 1)]), (1, [.one (.int .i64 k_1)]), (5, [.one (.int .i64 i_5)])], [(1, .io 23 a_0r1)])
noncomputable def E_laws_markThingS (laws_markText : Int → Option ByteArray) (k : St_laws_markThingS → Option (Int × (List SThing))) (a_0 : (List SThing)) (k_1 : Int) : Option (Int × (List SThing)) :=
  k (.c0 k_1 (0 : Int) a_0)
noncomputable def B_laws_markThingS (laws_markText : Int → Option ByteArray) (k : St_laws_markThingS → Option (Int × (List SThing))) : St_laws_markThingS → Option (Int × (List SThing))
  | .c0 k_1 i_5 a_0r1 =>
    bif (decide (i_5 < (a_0r1.length : Int))) then
      bif ((decide (0 ≤ i_5)) && (decide (i_5 < (a_0r1.length : Int)))) then
      k (.c1 (w64 (k_1 + 1)) i_5 (a_0r1.set i_5.toNat (⟨k_1, (a_0r1.getD i_5.toNat (⟨(0 : Int), (0 : Int), false, false, false, false, (⟨#[]⟩ : ByteArray), (0 : Int)⟩ : SThing)).fKind, (a_0r1.getD i_5.toNat (⟨(0 : Int), (0 : Int), false, false, false, false, (⟨#[]⟩ : ByteArray), (0 : Int)⟩ : SThing)).fHidden, (a_0r1.getD i_5.toNat (⟨(0 : Int), (0 : Int), false, false, false, false, (⟨#[]⟩ : ByteArray), (0 : Int)⟩ : SThing)).fFixed, (a_0r1.getD i_5.toNat (⟨(0 : Int), (0 : Int), false, false, false, false, (⟨#[]⟩ : ByteArray), (0 : Int)⟩ : SThing)).fSigns, (a_0r1.getD i_5.toNat (⟨(0 : Int), (0 : Int), false, false, false, false, (⟨#[]⟩ : ByteArray), (0 : Int)⟩ : SThing)).fWraps, (a_0r1.getD i_5.toNat (⟨(0 : Int), (0 : Int), false, false, false, false, (⟨#[]⟩ : ByteArray), (0 : Int)⟩ : SThing)).fValue, (a_0r1.getD i_5.toNat (⟨(0 : Int), (0 : Int), false, false, false, false, (⟨#[]⟩ : ByteArray), (0 : Int)⟩ : SThing)).fNext⟩ : SThing)))
      else none
    else
      some (k_1, a_0r1)
  | .c1 k_1 i_5 a_0r1 =>
    bif ((decide (0 ≤ i_5)) && (decide (i_5 < (a_0r1.length : Int)))) then
    k (.c2 (w64 (k_1 + 1)) i_5 (a_0r1.set i_5.toNat (⟨(a_0r1.getD i_5.toNat (⟨(0 : Int), (0 : Int), false, false, false, false, (⟨#[]⟩ : ByteArray), (0 : Int)⟩ : SThing)).fId, k_1, (a_0r1.getD i_5.toNat (⟨(0 : Int), (0 : Int), false, false, false, false, (⟨#[]⟩ : ByteArray), (0 : Int)⟩ : SThing)).fHidden, (a_0r1.getD i_5.toNat (⟨(0 : Int), (0 : Int), false, false, false, false, (⟨#[]⟩ : ByteArray), (0 : Int)⟩ : SThing)).fFixed, (a_0r1.getD i_5.toNat (⟨(0 : Int), (0 : Int), false, false, false, false, (⟨#[]⟩ : ByteArray), (0 : Int)⟩ : SThing)).fSigns, (a_0r1.getD i_5.toNat (⟨(0 : Int), (0 : Int), false, false, false, false, (⟨#[]⟩ : ByteArray), (0 : Int)⟩ : SThing)).fWraps, (a_0r1.getD i_5.toNat (⟨(0 : Int), (0 : Int), false, false, false, false, (⟨#[]⟩ : ByteArray), (0 : Int)⟩ : SThing)).fValue, (a_0r1.getD i_5.toNat (⟨(0 : Int), (0 : Int), false, false, false, false, (⟨#[]⟩ : ByteArray), (0 : Int)⟩ : SThing)).fNext⟩ : SThing)))
    else none
  | .c2 k_1 i_5 a_0r1 =>
    bif ((decide (0 ≤ i_5)) && (decide (i_5 < (a_0r1.length : Int)))) then
    k (.c3 (w64 (k_1 + 1)) i_5 (a_0r1.set i_5.toNat (⟨(a_0r1.getD i_5.toNat (⟨(0 : Int), (0 : Int), false, false, false, false, (⟨#[]⟩ : ByteArray), (0 : Int)⟩ : SThing)).fId, (a_0r1.getD i_5.toNat (⟨(0 : Int), (0 : Int), false, false, false, false, (⟨#[]⟩ : ByteArray), (0 : Int)⟩ : SThing)).fKind, ((k_1.tmod 3) == 0), (a_0r1.getD i_5.toNat (⟨(0 : Int), (0 : Int), false, false, false, false, (⟨#[]⟩ : ByteArray), (0 : Int)⟩ : SThing)).fFixed, (a_0r1.getD i_5.toNat (⟨(0 : Int), (0 : Int), false, false, false, false, (⟨#[]⟩ : ByteArray), (0 : Int)⟩ : SThing)).fSigns, (a_0r1.getD i_5.toNat (⟨(0 : Int), (0 : Int), false, false, false, false, (⟨#[]⟩ : ByteArray), (0 : Int)⟩ : SThing)).fWraps, (a_0r1.getD i_5.toNat (⟨(0 : Int), (0 : Int), false, false, false, false, (⟨#[]⟩ : ByteArray), (0 : Int)⟩ : SThing)).fValue, (a_0r1.getD i_5.toNat (⟨(0 : Int), (0 : Int), false, false, false, false, (⟨#[]⟩ : ByteArray), (0 : Int)⟩ : SThing)).fNext⟩ : SThing)))
    else none
  | .c3 k_1 i_5 a_0r1 =>
    bif ((decide (0 ≤ i_5)) && (decide (i_5 < (a_0r1.length : Int)))) then
    k (.c4 (w64 (k_1 + 1)) i_5 (a_0r1.set i_5.toNat (⟨(a_0r1.getD i_5.toNat (⟨(0 : Int), (0 : Int), false, false, false, false, (⟨#[]⟩ : ByteArray), (0 : Int)⟩ : SThing)).fId, (a_0r1.getD i_5.toNat (⟨(0 : Int), (0 : Int), false, false, false, false, (⟨#[]⟩ : ByteArray), (0 : Int)⟩ : SThing)).fKind, (a_0r1.getD i_5.toNat (⟨(0 : Int), (0 : Int), false, false, false, false, (⟨#[]⟩ : ByteArray), (0 : Int)⟩ : SThing)).fHidden, ((k_1.tmod 3) == 0), (a_0r1.getD i_5.toNat (⟨(0 : Int), (0 : Int), false, false, false, false, (⟨#[]⟩ : ByteArray), (0 : Int)⟩ : SThing)).fSigns, (a_0r1.getD i_5.toNat (⟨(0 : Int), (0 : Int), false, false, false, false, (⟨#[]⟩ : ByteArray), (0 : Int)⟩ : SThing)).fWraps, (a_0r1.getD i_5.toNat (⟨(0 : Int), (0 : Int), false, false, false, false, (⟨#[]⟩ : ByteArray), (0 : Int)⟩ : SThing)).fValue, (a_0r1.getD i_5.toNat (⟨(0 : Int), (0 : Int), false, false, false, false, (⟨#[]⟩ : ByteArray), (0 : Int)⟩ : SThing)).fNext⟩ : SThing)))
    else none
  | .c4 k_1 i_5 a_0r1 =>
    bif ((decide (0 ≤ i_5)) && (decide (i_5 < (a_0r1.length : Int)))) then
    k (.c5 (w64 (k_1 + 1)) i_5 (a_0r1.set i_5.toNat (⟨(a_0r1.getD i_5.toNat (⟨(0 : Int), (0 : Int), false, false, false, false, (⟨#[]⟩ : ByteArray), (0 : Int)⟩ : SThing)).fId, (a_0r1.getD i_5.toNat (⟨(0 : Int), (0 : Int), false, false, false, false, (⟨#[]⟩ : ByteArray), (0 : Int)⟩ : SThing)).fKind, (a_0r1.getD i_5.toNat (⟨(0 : Int), (0 : Int), false, false, false, false, (⟨#[]⟩ : ByteArray), (0 : Int)⟩ : SThing)).fHidden, (a_0r1.getD i_5.toNat (⟨(0 : Int), (0 : Int), false, false, false, false, (⟨#[]⟩ : ByteArray), (0 : Int)⟩ : SThing)).fFixed, ((k_1.tmod 3) == 0), (a_0r1.getD i_5.toNat (⟨(0 : Int), (0 : Int), false, false, false, false, (⟨#[]⟩ : ByteArray), (0 : Int)⟩ : SThing)).fWraps, (a_0r1.getD i_5.toNat (⟨(0 : Int), (0 : Int), false, false, false, false, (⟨#[]⟩ : ByteArray), (0 : Int)⟩ : SThing)).fValue, (a_0r1.getD i_5.toNat (⟨(0 : Int), (0 : Int), false, false, false, false, (⟨#[]⟩ : ByteArray), (0 : Int)⟩ : SThing)).fNext⟩ : SThing)))
    else none
  | .c5 k_1 i_5 a_0r1 =>
    bif ((decide (0 ≤ i_5)) && (decide (i_5 < (a_0r1.length : Int)))) then
    k (.c6 (w64 (k_1 + 1)) i_5 (a_0r1.set i_5.toNat (⟨(a_0r1.getD i_5.toNat (⟨(0 : Int), (0 : Int), false, false, false, false, (⟨#[]⟩ : ByteArray), (0 : Int)⟩ : SThing)).fId, (a_0r1.getD i_5.toNat (⟨(0 : Int), (0 : Int), false, false, false, false, (⟨#[]⟩ : ByteArray), (0 : Int)⟩ : SThing)).fKind, (a_0r1.getD i_5.toNat (⟨(0 : Int), (0 : Int), false, false, false, false, (⟨#[]⟩ : ByteArray), (0 : Int)⟩ : SThing)).fHidden, (a_0r1.getD i_5.toNat (⟨(0 : Int), (0 : Int), false, false, false, false, (⟨#[]⟩ : ByteArray), (0 : Int)⟩ : SThing)).fFixed, (a_0r1.getD i_5.toNat (⟨(0 : Int), (0 : Int), false, false, false, false, (⟨#[]⟩ : ByteArray), (0 : Int)⟩ : SThing)).fSigns, ((k_1.tmod 3) == 0), (a_0r1.getD i_5.toNat (⟨(0 : Int), (0 : Int), false, false, false, false, (⟨#[]⟩ : ByteArray), (0 : Int)⟩ : SThing)).fValue, (a_0r1.getD i_5.toNat (⟨(0 : Int), (0 : Int), false, false, false, false, (⟨#[]⟩ : ByteArray), (0 : Int)⟩ : SThing)).fNext⟩ : SThing)))
    else none
  | .c6 k_1 i_5 a_0r1 =>
    (laws_markText k_1).bind fun r0 =>
    bif ((decide (0 ≤ i_5)) && (decide (i_5 < (a_0r1.length : Int)))) then
    k (.c7 (w64 (k_1 + 1)) i_5 (a_0r1.set i_5.toNat (⟨(a_0r1.getD i_5.toNat (⟨(0 : Int), (0 : Int), false, false, false, false, (⟨#[]⟩ : ByteArray), (0 : Int)⟩ : SThing)).fId, (a_0r1.getD i_5.toNat (⟨(0 : Int), (0 : Int), false, false, false, false, (⟨#[]⟩ : ByteArray), (0 : Int)⟩ : SThing)).fKind, (a_0r1.getD i_5.toNat (⟨(0 : Int), (0 : Int), false, false, false, false, (⟨#[]⟩ : ByteArray), (0 : Int)⟩ : SThing)).fHidden, (a_0r1.getD i_5.toNat (⟨(0 : Int), (0 : Int), false, false, false, false, (⟨#[]⟩ : ByteArray), (0 : Int)⟩ : SThing)).fFixed, (a_0r1.getD i_5.toNat (⟨(0 : Int), (0 : Int), false, false, false, false, (⟨#[]⟩ : ByteArray), (0 : Int)⟩ : SThing)).fSigns, (a_0r1.getD i_5.toNat (⟨(0 : Int), (0 : Int), false, false, false, false, (⟨#[]⟩ : ByteArray), (0 : Int)⟩ : SThing)).fWraps, r0, (a_0r1.getD i_5.toNat (⟨(0 : Int), (0 : Int), false, false, false, false, (⟨#[]⟩ : ByteArray), (0 : Int)⟩ : SThing)).fNext⟩ : SThing)))
    else none
  | .c7 k_1 i_5 a_0r1 =>
    bif ((decide (0 ≤ i_5)) && (decide (i_5 < (a_0r1.length : Int)))) then
    k (.c0 (w64 (k_1 + 1)) (w64 (i_5 + 1)) (a_0r1.set i_5.toNat (⟨(a_0r1.getD i_5.toNat (⟨(0 : Int), (0 : Int), false, false, false, false, (⟨#[]⟩ : ByteArray), (0 : Int)⟩ : SThing)).fId, (a_0r1.getD i_5.toNat (⟨(0 : Int), (0 : Int), false, false, false, false, (⟨#[]⟩ : ByteArray), (0 : Int)⟩ : SThing)).fKind, (a_0r1.getD i_5.toNat (⟨(0 : Int), (0 : Int), false, false, false, false, (⟨#[]⟩ : ByteArray), (0 : Int)⟩ : SThing)).fHidden, (a_0r1.getD i_5.toNat (⟨(0 : Int), (0 : Int), false, false, false, false, (⟨#[]⟩ : ByteArray), (0 : Int)⟩ : SThing)).fFixed, (a_0r1.getD i_5.toNat (⟨(0 : Int), (0 : Int), false, false, false, false, (⟨#[]⟩ : ByteArray), (0 : Int)⟩ : SThing)).fSigns, (a_0r1.getD i_5.toNat (⟨(0 : Int), (0 : Int), false, false, false, false, (⟨#[]⟩ : ByteArray), (0 : Int)⟩ : SThing)).fWraps, (a_0r1.getD i_5.toNat (⟨(0 : Int), (0 : Int), false, false, false, false, (⟨#[]⟩ : ByteArray), (0 : Int)⟩ : SThing)).fValue, k_1⟩ : SThing)))
    else none
noncomputable def L_laws_markThingS : Nat → St_laws_markThingS → Option (Int × (List SThing))
  | 0, _ => none
  | m + 1, s => B_laws_markThingS laws_markText (L_laws_markThingS m) s
noncomputable def laws_markThingS (a_0 : (List SThing)) (k_1 : Int) : Option (Int × (List SThing)) := E_laws_markThingS laws_markText (L_laws_markThingS gas) a_0 k_1
theorem e_laws_markThingS (laws_markText : Int → Option ByteArray) : EntryIs ctx PP 31 [1] [(49, H_laws_markText laws_markText)] cv29 cv30 at_laws_markThingS (fun k a => E_laws_markThingS laws_markText k a.1 a.2) := fun stop a => by kernel_rfl
theorem b_laws_markThingS (laws_markText : Int → Option ByteArray) : CutIs ctx PP 31 Tryd.f31 [1] [(49, H_laws_markText laws_markText)] cv30 at_laws_markThingS (B_laws_markThingS laws_markText) := fun stop s => by cases s <;> kernel_rfl
theorem i_laws_markThingS : ∀ s s', at_laws_markThingS s = at_laws_markThingS s' → s = s' := by
  intro s s' h
  cases s with
  | c0 v0 v1 v2 => cases s' with
    | c0 w0 w1 w2 => cases h; rfl
    | c1 w0 w1 w2 => exact (region_ne 2 6 h (by kernel_rfl) (by kernel_rfl) rfl).elim
    | c2 w0 w1 w2 => exact (region_ne 2 8 h (by kernel_rfl) (by kernel_rfl) rfl).elim
    | c3 w0 w1 w2 => exact (region_ne 2 10 h (by kernel_rfl) (by kernel_rfl) rfl).elim
    | c4 w0 w1 w2 => exact (region_ne 2 12 h (by kernel_rfl) (by kernel_rfl) rfl).elim
    | c5 w0 w1 w2 => exact (region_ne 2 14 h (by kernel_rfl) (by kernel_rfl) rfl).elim
    | c6 w0 w1 w2 => exact (region_ne 2 16 h (by kernel_rfl) (by kernel_rfl) rfl).elim
    | c7 w0 w1 w2 => exact (region_ne 2 18 h (by kernel_rfl) (by kernel_rfl) rfl).elim
  | c1 v0 v1 v2 => cases s' with
    | c0 w0 w1 w2 => exact (region_ne 6 2 h (by kernel_rfl) (by kernel_rfl) rfl).elim
    | c1 w0 w1 w2 => cases h; rfl
    | c2 w0 w1 w2 => exact (region_ne 6 8 h (by kernel_rfl) (by kernel_rfl) rfl).elim
    | c3 w0 w1 w2 => exact (region_ne 6 10 h (by kernel_rfl) (by kernel_rfl) rfl).elim
    | c4 w0 w1 w2 => exact (region_ne 6 12 h (by kernel_rfl) (by kernel_rfl) rfl).elim
    | c5 w0 w1 w2 => exact (region_ne 6 14 h (by kernel_rfl) (by kernel_rfl) rfl).elim
    | c6 w0 w1 w2 => exact (region_ne 6 16 h (by kernel_rfl) (by kernel_rfl) rfl).elim
    | c7 w0 w1 w2 => exact (region_ne 6 18 h (by kernel_rfl) (by kernel_rfl) rfl).elim
  | c2 v0 v1 v2 => cases s' with
    | c0 w0 w1 w2 => exact (region_ne 8 2 h (by kernel_rfl) (by kernel_rfl) rfl).elim
    | c1 w0 w1 w2 => exact (region_ne 8 6 h (by kernel_rfl) (by kernel_rfl) rfl).elim
    | c2 w0 w1 w2 => cases h; rfl
    | c3 w0 w1 w2 => exact (region_ne 8 10 h (by kernel_rfl) (by kernel_rfl) rfl).elim
    | c4 w0 w1 w2 => exact (region_ne 8 12 h (by kernel_rfl) (by kernel_rfl) rfl).elim
    | c5 w0 w1 w2 => exact (region_ne 8 14 h (by kernel_rfl) (by kernel_rfl) rfl).elim
    | c6 w0 w1 w2 => exact (region_ne 8 16 h (by kernel_rfl) (by kernel_rfl) rfl).elim
    | c7 w0 w1 w2 => exact (region_ne 8 18 h (by kernel_rfl) (by kernel_rfl) rfl).elim
  | c3 v0 v1 v2 => cases s' with
    | c0 w0 w1 w2 => exact (region_ne 10 2 h (by kernel_rfl) (by kernel_rfl) rfl).elim
    | c1 w0 w1 w2 => exact (region_ne 10 6 h (by kernel_rfl) (by kernel_rfl) rfl).elim
    | c2 w0 w1 w2 => exact (region_ne 10 8 h (by kernel_rfl) (by kernel_rfl) rfl).elim
    | c3 w0 w1 w2 => cases h; rfl
    | c4 w0 w1 w2 => exact (region_ne 10 12 h (by kernel_rfl) (by kernel_rfl) rfl).elim
    | c5 w0 w1 w2 => exact (region_ne 10 14 h (by kernel_rfl) (by kernel_rfl) rfl).elim
    | c6 w0 w1 w2 => exact (region_ne 10 16 h (by kernel_rfl) (by kernel_rfl) rfl).elim
    | c7 w0 w1 w2 => exact (region_ne 10 18 h (by kernel_rfl) (by kernel_rfl) rfl).elim
  | c4 v0 v1 v2 => cases s' with
    | c0 w0 w1 w2 => exact (region_ne 12 2 h (by kernel_rfl) (by kernel_rfl) rfl).elim
    | c1 w0 w1 w2 => exact (region_ne 12 6 h (by kernel_rfl) (by kernel_rfl) rfl).elim
    | c2 w0 w1 w2 => exact (region_ne 12 8 h (by kernel_rfl) (by kernel_rfl) rfl).elim
    | c3 w0 w1 w2 => exact (region_ne 12 10 h (by kernel_rfl) (by kernel_rfl) rfl).elim
    | c4 w0 w1 w2 => cases h; rfl
    | c5 w0 w1 w2 => exact (region_ne 12 14 h (by kernel_rfl) (by kernel_rfl) rfl).elim
    | c6 w0 w1 w2 => exact (region_ne 12 16 h (by kernel_rfl) (by kernel_rfl) rfl).elim
    | c7 w0 w1 w2 => exact (region_ne 12 18 h (by kernel_rfl) (by kernel_rfl) rfl).elim
  | c5 v0 v1 v2 => cases s' with
    | c0 w0 w1 w2 => exact (region_ne 14 2 h (by kernel_rfl) (by kernel_rfl) rfl).elim
    | c1 w0 w1 w2 => exact (region_ne 14 6 h (by kernel_rfl) (by kernel_rfl) rfl).elim
    | c2 w0 w1 w2 => exact (region_ne 14 8 h (by kernel_rfl) (by kernel_rfl) rfl).elim
    | c3 w0 w1 w2 => exact (region_ne 14 10 h (by kernel_rfl) (by kernel_rfl) rfl).elim
    | c4 w0 w1 w2 => exact (region_ne 14 12 h (by kernel_rfl) (by kernel_rfl) rfl).elim
    | c5 w0 w1 w2 => cases h; rfl
    | c6 w0 w1 w2 => exact (region_ne 14 16 h (by kernel_rfl) (by kernel_rfl) rfl).elim
    | c7 w0 w1 w2 => exact (region_ne 14 18 h (by kernel_rfl) (by kernel_rfl) rfl).elim
  | c6 v0 v1 v2 => cases s' with
    | c0 w0 w1 w2 => exact (region_ne 16 2 h (by kernel_rfl) (by kernel_rfl) rfl).elim
    | c1 w0 w1 w2 => exact (region_ne 16 6 h (by kernel_rfl) (by kernel_rfl) rfl).elim
    | c2 w0 w1 w2 => exact (region_ne 16 8 h (by kernel_rfl) (by kernel_rfl) rfl).elim
    | c3 w0 w1 w2 => exact (region_ne 16 10 h (by kernel_rfl) (by kernel_rfl) rfl).elim
    | c4 w0 w1 w2 => exact (region_ne 16 12 h (by kernel_rfl) (by kernel_rfl) rfl).elim
    | c5 w0 w1 w2 => exact (region_ne 16 14 h (by kernel_rfl) (by kernel_rfl) rfl).elim
    | c6 w0 w1 w2 => cases h; rfl
    | c7 w0 w1 w2 => exact (region_ne 16 18 h (by kernel_rfl) (by kernel_rfl) rfl).elim
  | c7 v0 v1 v2 => cases s' with
    | c0 w0 w1 w2 => exact (region_ne 18 2 h (by kernel_rfl) (by kernel_rfl) rfl).elim
    | c1 w0 w1 w2 => exact (region_ne 18 6 h (by kernel_rfl) (by kernel_rfl) rfl).elim
    | c2 w0 w1 w2 => exact (region_ne 18 8 h (by kernel_rfl) (by kernel_rfl) rfl).elim
    | c3 w0 w1 w2 => exact (region_ne 18 10 h (by kernel_rfl) (by kernel_rfl) rfl).elim
    | c4 w0 w1 w2 => exact (region_ne 18 12 h (by kernel_rfl) (by kernel_rfl) rfl).elim
    | c5 w0 w1 w2 => exact (region_ne 18 14 h (by kernel_rfl) (by kernel_rfl) rfl).elim
    | c6 w0 w1 w2 => exact (region_ne 18 16 h (by kernel_rfl) (by kernel_rfl) rfl).elim
    | c7 w0 w1 w2 => cases h; rfl
theorem ok_laws_markThingS : Tells ctx PP 31 cv29 cv30 (fun a => laws_markThingS a.1 a.2) := fn_ok (hl_cons h_laws_markText hl_nil) Tryd.func31 i_laws_markThingS (fun _ => rfl) (fun _ _ => rfl) (b_laws_markThingS laws_markText) (e_laws_markThingS laws_markText) gas
noncomputable def H_laws_markThingS {γ : Type} (F : (List SThing) → Int → Option (Int × (List SThing))) : Hd ctx γ := hdl cv29.dec (fun a => F a.1 a.2) cv30.enc
theorem h_laws_markThingS {γ : Type} : HdOk (γ := γ) PP 31 (H_laws_markThingS laws_markThingS) := hd_ok ok_laws_markThingS
noncomputable def E_laws_markBook (laws_markThingS : (List SThing) → Int → Option (Int × (List SThing))) (a_0 : SBook) (k_1 : Int) : Option (Int × (List SThing)) :=
  (laws_markThingS a_0.fThings k_1).bind fun r0 =>
  some (r0.1, r0.2)
noncomputable def laws_markBook (a_0 : SBook) (k_1 : Int) : Option (Int × (List SThing)) := E_laws_markBook laws_markThingS a_0 k_1
theorem e_laws_markBook (laws_markThingS : (List SThing) → Int → Option (Int × (List SThing))) : EntryIs0 ctx PP 17 [1] [(31, H_laws_markThingS laws_markThingS)] cv31 cv32 (fun a => E_laws_markBook laws_markThingS a.1 a.2) := fun a => by kernel_rfl
theorem ok_laws_markBook : Tells ctx PP 17 cv31 cv32 (fun a => laws_markBook a.1 a.2) := fn_ok0 (hl_cons h_laws_markThingS hl_nil) Tryd.func17 (e_laws_markBook laws_markThingS)
noncomputable def H_laws_markBook {γ : Type} (F : SBook → Int → Option (Int × (List SThing))) : Hd ctx γ := hdl cv31.dec (fun a => F a.1 a.2) cv32.enc
theorem h_laws_markBook {γ : Type} : HdOk (γ := γ) PP 17 (H_laws_markBook laws_markBook) := hd_ok ok_laws_markBook
noncomputable def todo_laws_heldThingS_0 : List Go.Item := [.code (cAt (bodyOf Tryd.f32) [1, 0, 1, 0, 0, 0, 0]), .code (cAt (bodyOf Tryd.f32) [1, 0, 1, 0, 0, 0, 1]), .code (cAt (bodyOf Tryd.f32) [1, 0, 1, 0, 0, 1]), .inLoop (cAt (bodyOf Tryd.f32) [1, 0, 1, 0, 0]), .inBlock 0, .code (cAt (bodyOf Tryd.f32) [1, 1])]
inductive St_laws_heldThingS where
  | c0 (a_0 : (List SThing)) (k_1 : Int) (i_5 : Int)
noncomputable def at_laws_heldThingS : St_laws_heldThingS → LI
  | .c0 a_0 k_1 i_5 => (todo_laws_heldThingS_0, [(0, [.one (.rsl 23 a_0)]), (1, [.one (.int .i64 k_1)]), (5, [.one (.int .i64 i_5)])], [])
noncomputable def E_laws_heldThingS (laws_markText : Int → Option ByteArray) (k : St_laws_heldThingS → Option Int) (a_0 : (List SThing)) (k_1 : Int) : Option Int :=
  k (.c0 a_0 k_1 (0 : Int))
noncomputable def B_laws_heldThingS (laws_markText : Int → Option ByteArray) (k : St_laws_heldThingS → Option Int) : St_laws_heldThingS → Option Int
  | .c0 a_0 k_1 i_5 =>
    bif (decide (i_5 < (a_0.length : Int))) then
      bif ((decide (0 ≤ i_5)) && (decide (i_5 < (a_0.length : Int)))) then
      bif ((a_0.getD i_5.toNat (⟨(0 : Int), (0 : Int), false, false, false, false, (⟨#[]⟩ : ByteArray), (0 : Int)⟩ : SThing)).fId != k_1) then
        some (-(1 : Int))
      else
        bif ((decide (0 ≤ i_5)) && (decide (i_5 < (a_0.length : Int)))) then
        bif ((a_0.getD i_5.toNat (⟨(0 : Int), (0 : Int), false, false, false, false, (⟨#[]⟩ : ByteArray), (0 : Int)⟩ : SThing)).fKind != (w64 (k_1 + 1))) then
          some (-(1 : Int))
        else
          bif ((decide (0 ≤ i_5)) && (decide (i_5 < (a_0.length : Int)))) then
          bif (!((a_0.getD i_5.toNat (⟨(0 : Int), (0 : Int), false, false, false, false, (⟨#[]⟩ : ByteArray), (0 : Int)⟩ : SThing)).fHidden == (((w64 ((w64 (k_1 + 1)) + 1)).tmod 3) == 0))) then
            some (-(1 : Int))
          else
            bif ((decide (0 ≤ i_5)) && (decide (i_5 < (a_0.length : Int)))) then
            bif (!((a_0.getD i_5.toNat (⟨(0 : Int), (0 : Int), false, false, false, false, (⟨#[]⟩ : ByteArray), (0 : Int)⟩ : SThing)).fFixed == (((w64 ((w64 ((w64 (k_1 + 1)) + 1)) + 1)).tmod 3) == 0))) then
              some (-(1 : Int))
            else
              bif ((decide (0 ≤ i_5)) && (decide (i_5 < (a_0.length : Int)))) then
              bif (!((a_0.getD i_5.toNat (⟨(0 : Int), (0 : Int), false, false, false, false, (⟨#[]⟩ : ByteArray), (0 : Int)⟩ : SThing)).fSigns == (((w64 ((w64 ((w64 ((w64 (k_1 + 1)) + 1)) + 1)) + 1)).tmod 3) == 0))) then
                some (-(1 : Int))
              else
                bif ((decide (0 ≤ i_5)) && (decide (i_5 < (a_0.length : Int)))) then
                bif (!((a_0.getD i_5.toNat (⟨(0 : Int), (0 : Int), false, false, false, false, (⟨#[]⟩ : ByteArray), (0 : Int)⟩ : SThing)).fWraps == (((w64 ((w64 ((w64 ((w64 ((w64 (k_1 + 1)) + 1)) + 1)) + 1)) + 1)).tmod 3) == 0))) then
                  some (-(1 : Int))
                else
                  bif ((decide (0 ≤ i_5)) && (decide (i_5 < (a_0.length : Int)))) then
                  (laws_markText (w64 ((w64 ((w64 ((w64 ((w64 ((w64 (k_1 + 1)) + 1)) + 1)) + 1)) + 1)) + 1))).bind fun r0 =>
                  bif (!((ByteArray.toList (a_0.getD i_5.toNat (⟨(0 : Int), (0 : Int), false, false, false, false, (⟨#[]⟩ : ByteArray), (0 : Int)⟩ : SThing)).fValue) == (ByteArray.toList r0))) then
                    some (-(1 : Int))
                  else
                    bif ((decide (0 ≤ i_5)) && (decide (i_5 < (a_0.length : Int)))) then
                    bif ((a_0.getD i_5.toNat (⟨(0 : Int), (0 : Int), false, false, false, false, (⟨#[]⟩ : ByteArray), (0 : Int)⟩ : SThing)).fNext != (w64 ((w64 ((w64 ((w64 ((w64 ((w64 ((w64 (k_1 + 1)) + 1)) + 1)) + 1)) + 1)) + 1)) + 1))) then
                      some (-(1 : Int))
                    else
                      k (.c0 a_0 (w64 ((w64 ((w64 ((w64 ((w64 ((w64 ((w64 ((w64 (k_1 + 1)) + 1)) + 1)) + 1)) + 1)) + 1)) + 1)) + 1)) (w64 (i_5 + 1)))
                    else none
                  else none
                else none
              else none
            else none
          else none
        else none
      else none
    else
      some k_1
noncomputable def L_laws_heldThingS : Nat → St_laws_heldThingS → Option Int
  | 0, _ => none
  | m + 1, s => B_laws_heldThingS laws_markText (L_laws_heldThingS m) s
noncomputable def laws_heldThingS (a_0 : (List SThing)) (k_1 : Int) : Option Int := E_laws_heldThingS laws_markText (L_laws_heldThingS gas) a_0 k_1
theorem e_laws_heldThingS (laws_markText : Int → Option ByteArray) : EntryIs ctx PP 32 [] [(49, H_laws_markText laws_markText)] cv33 cv16 at_laws_heldThingS (fun k a => E_laws_heldThingS laws_markText k a.1 a.2) := fun stop a => by kernel_rfl
theorem b_laws_heldThingS (laws_markText : Int → Option ByteArray) : CutIs ctx PP 32 Tryd.f32 [] [(49, H_laws_markText laws_markText)] cv16 at_laws_heldThingS (B_laws_heldThingS laws_markText) := fun stop s => by cases s <;> kernel_rfl
theorem i_laws_heldThingS : ∀ s s', at_laws_heldThingS s = at_laws_heldThingS s' → s = s' := by
  intro s s' h
  cases s with
  | c0 v0 v1 v2 => cases s' with
    | c0 w0 w1 w2 => cases h; rfl
theorem ok_laws_heldThingS : Tells ctx PP 32 cv33 cv16 (fun a => laws_heldThingS a.1 a.2) := fn_ok (hl_cons h_laws_markText hl_nil) Tryd.func32 i_laws_heldThingS (fun _ => rfl) (fun _ _ => rfl) (b_laws_heldThingS laws_markText) (e_laws_heldThingS laws_markText) gas
noncomputable def H_laws_heldThingS {γ : Type} (F : (List SThing) → Int → Option Int) : Hd ctx γ := hdl cv33.dec (fun a => F a.1 a.2) cv16.enc
theorem h_laws_heldThingS {γ : Type} : HdOk (γ := γ) PP 32 (H_laws_heldThingS laws_heldThingS) := hd_ok ok_laws_heldThingS
noncomputable def E_laws_heldBook (laws_heldThingS : (List SThing) → Int → Option Int) (a_0 : SBook) (k_1 : Int) : Option Int :=
  (laws_heldThingS a_0.fThings k_1).bind fun r0 =>
  bif (decide (r0 < 0)) then
    some (-(1 : Int))
  else
    some r0
noncomputable def laws_heldBook (a_0 : SBook) (k_1 : Int) : Option Int := E_laws_heldBook laws_heldThingS a_0 k_1
theorem e_laws_heldBook (laws_heldThingS : (List SThing) → Int → Option Int) : EntryIs0 ctx PP 18 [] [(32, H_laws_heldThingS laws_heldThingS)] cv34 cv16 (fun a => E_laws_heldBook laws_heldThingS a.1 a.2) := fun a => by kernel_rfl
theorem ok_laws_heldBook : Tells ctx PP 18 cv34 cv16 (fun a => laws_heldBook a.1 a.2) := fn_ok0 (hl_cons h_laws_heldThingS hl_nil) Tryd.func18 (e_laws_heldBook laws_heldThingS)
noncomputable def H_laws_heldBook {γ : Type} (F : SBook → Int → Option Int) : Hd ctx γ := hdl cv34.dec (fun a => F a.1 a.2) cv16.enc
theorem h_laws_heldBook {γ : Type} : HdOk (γ := γ) PP 18 (H_laws_heldBook laws_heldBook) := hd_ok ok_laws_heldBook
noncomputable def E_laws_FnExactBookNew (spec_BookNew : Option SBook) (impl_BookNew : Option SBook) (laws_eqBook : SBook → SBook → Option Bool) (laws_markBook : SBook → Int → Option (Int × (List SThing))) (laws_heldBook : SBook → Int → Option Int)  : Option Bool :=
  spec_BookNew.bind fun r0 =>
  impl_BookNew.bind fun r1 =>
  (laws_eqBook r1 r0).bind fun r2 =>
  bif (!r2) then
    some false
  else
    (laws_markBook r1 (1 : Int)).bind fun r3 =>
    (laws_heldBook (⟨r1.fWord, r1.fTries, r3.2, r1.fLast, r1.fChain, r1.fCount⟩ : SBook) (1 : Int)).bind fun r4 =>
    bif (decide (r4 < 0)) then
      some false
    else
      bif (r4 != r3.1) then
        some false
      else
        impl_BookNew.bind fun r5 =>
        (laws_eqBook r5 r0).bind fun r6 =>
        bif (!r6) then
          some false
        else
          (laws_heldBook (⟨r1.fWord, r1.fTries, r3.2, r1.fLast, r1.fChain, r1.fCount⟩ : SBook) (1 : Int)).bind fun r7 =>
          bif (decide (r7 < 0)) then
            some false
          else
            bif (r7 != r3.1) then
              some false
            else
              some true
noncomputable def laws_FnExactBookNew  : Option Bool := E_laws_FnExactBookNew spec_BookNew impl_BookNew laws_eqBook laws_markBook laws_heldBook 
theorem e_laws_FnExactBookNew (spec_BookNew : Option SBook) (impl_BookNew : Option SBook) (laws_eqBook : SBook → SBook → Option Bool) (laws_markBook : SBook → Int → Option (Int × (List SThing))) (laws_heldBook : SBook → Int → Option Int) : EntryIs0 ctx PP 6 [] [(14, H_spec_BookNew spec_BookNew), (15, H_impl_BookNew impl_BookNew), (16, H_laws_eqBook laws_eqBook), (17, H_laws_markBook laws_markBook), (18, H_laws_heldBook laws_heldBook)] cv0 cv6 (fun _ => E_laws_FnExactBookNew spec_BookNew impl_BookNew laws_eqBook laws_markBook laws_heldBook ) := fun a => by kernel_rfl
theorem ok_laws_FnExactBookNew : Tells ctx PP 6 cv0 cv6 (fun _ => laws_FnExactBookNew ) := fn_ok0 (hl_cons h_spec_BookNew (hl_cons h_impl_BookNew (hl_cons h_laws_eqBook (hl_cons h_laws_markBook (hl_cons h_laws_heldBook hl_nil))))) Tryd.func6 (e_laws_FnExactBookNew spec_BookNew impl_BookNew laws_eqBook laws_markBook laws_heldBook)
noncomputable def H_laws_FnExactBookNew {γ : Type} (F : Option Bool) : Hd ctx γ := hdl cv0.dec (fun _ => F ) cv6.enc
theorem h_laws_FnExactBookNew {γ : Type} : HdOk (γ := γ) PP 6 (H_laws_FnExactBookNew laws_FnExactBookNew) := hd_ok ok_laws_FnExactBookNew
end Go.Proofs.YtmhggcgkbenedaaDoor.G
