/- Several texts of this claim, one behind the other. -/
import Derived.Test.YtedfdphapcanoaaGreatDoorM37
import Derived.Test.YtedfdphapcanoaaGreatDoorM38
import Derived.Test.YtedfdphapcanoaaGreatDoorM39

section
/- Errors, and what they are about (embeds): between whom, changed. Plain. -/
set_option linter.unusedVariables false
set_option linter.unusedSimpArgs false
namespace Go.Proofs.YtedfdphapcanoaaGreatDoor
open Go.RowKit

/-- where an inner header ends -/
def emEnd (d : List UInt8) : Int := at_ d 0 % 16 * 4
def emAt (d : List UInt8) : Nat := (emEnd d).toNat
def emMsg (d : List UInt8) : Msg := ⟨at_ d (emAt d), at_ d (emAt d + 1), 0, { data := #[] }, { data := #[] }⟩
/-- why some bytes are nothing that an error can be about -/
def emWhy (d : List UInt8) : Int :=
  if (d.length : Int) < 20 ∨ at_ d 0 / 16 ≠ 4 then 15
  else if emEnd d < 20 ∨ (d.length : Int) - 8 < emEnd d ∨ be16 d 6 % 8192 ≠ 0 then 15
  else if at_ d 9 = 6 ∨ at_ d 9 = 17 then 0
  else if at_ d 9 ≠ 1 then 6
  else if qIs (emMsg d) = true then 0 else 15
def emAsk (d : List UInt8) : Bool := decide (at_ d 9 = 1) && qAsk (emMsg d)
/-- between whom the packet goes -/
def emTup (d : List UInt8) : Tup :=
  if at_ d 9 = 6 ∨ at_ d 9 = 17 then ⟨at_ d 9, be32 d 12, be16 d (emAt d), be32 d 16, be16 d (emAt d + 2)⟩
  else if qAsk (emMsg d) = true then ⟨at_ d 9, be32 d 12, be16 d (emAt d + 4), be32 d 16, 0⟩
  else ⟨at_ d 9, be32 d 12, 0, be32 d 16, be16 d (emAt d + 4)⟩
/-- a change of the ports, and of the sum that stands k bytes behind -/
def emFlowL (l : List UInt8) (e : Nat) (b d : Int) : List UInt8 := l.take e ++ (putW [b, d] ++ l.drop (e + 4))
def emFlowN (l : List UInt8) (e : Nat) (t : Tup) (a b c d : Int) (k : Nat) : Int := updates (get16 (emFlowL l e b d) ((e + k : Nat) : Int)) (ipsOf t.a t.c ++ putW [t.b, t.d]) (ipsOf a c ++ putW [b, d])
def emFlow (l : List UInt8) (e : Nat) (t : Tup) (a b c d : Int) (k : Nat) : List UInt8 :=
  if t.p = 17 ∧ get16 (emFlowL l e b d) ((e + k : Nat) : Int) = 0 then emFlowL l e b d
  else if e + k + 2 ≤ l.length then lay (emFlowL l e b d) (e + k) (if t.p = 17 ∧ emFlowN l e t a b c d k = 0 then 65535 else emFlowN l e t a b c d k)
  else emFlowL l e b d
/-- a query's ID, changed, and its sum -/
def emMsgN (l : List UInt8) (e : Nat) (id : Int) : List UInt8 := lay (lay l (e + 4) id) (e + 2) (upd (be16 l (e + 2)) (be16 l (e + 4)) id)
/-- the header's addresses, and its sum -/
def emMid (l : List UInt8) (a c : Int) : List UInt8 := lay (l.take 12 ++ (ipsOf a c ++ l.drop 20)) 10 (updates (be16 l 10) ((l.drop 12).take 8) (ipsOf a c))
def emCh (l : List UInt8) (e : Nat) (t : Tup) (q : Bool) (a b c d : Int) : List UInt8 :=
  if t.p = 6 then emFlow (emMid l a c) e t a b c d 16 else if t.p = 17 then emFlow (emMid l a c) e t a b c d 6 else emMsgN (emMid l a c) e (if q = true then b else d)
/-- what an error is about, changed -/
def emNew (l : List UInt8) (a b c d : Int) : List UInt8 := emCh l (emAt l) (emTup l) (emAsk l) a b c d
theorem ipsOf_len (a c : Int) : (ipsOf a c).length = 8 := rfl
theorem putW2_len (b d : Int) : (putW [b, d]).length = 4 := rfl
theorem emFlowL_len {l : List UInt8} {e : Nat} {b d : Int} (h : e + 4 ≤ l.length) : (emFlowL l e b d).length = l.length := by
  unfold emFlowL
  simp only [List.length_append, List.length_take, List.length_drop, putW2_len]; omega
theorem emFlow_len {l : List UInt8} {e : Nat} {t : Tup} {a b c d : Int} {k : Nat} (h : e + 4 ≤ l.length) : (emFlow l e t a b c d k).length = l.length := by
  unfold emFlow
  split
  · exact emFlowL_len h
  · split
    · rw [lay_length (by rw [emFlowL_len h]; assumption), emFlowL_len h]
    · exact emFlowL_len h
theorem emMid_len {l : List UInt8} {a c : Int} (h : 20 ≤ l.length) : (emMid l a c).length = l.length := by
  have h1 : (l.take 12 ++ (ipsOf a c ++ l.drop 20)).length = l.length := by
    simp only [List.length_append, List.length_take, List.length_drop, ipsOf_len]; omega
  unfold emMid
  rw [lay_length (by rw [h1]; omega), h1]
theorem emMsgN_len {l : List UInt8} {e : Nat} {id : Int} (h : e + 6 ≤ l.length) : (emMsgN l e id).length = l.length := by
  unfold emMsgN
  rw [lay_length (by rw [lay_length (by omega)]; omega), lay_length (by omega)]
theorem emCh_len {l : List UInt8} {e : Nat} {t : Tup} {q : Bool} {a b c d : Int} (h : e + 8 ≤ l.length) (h20 : 20 ≤ l.length) : (emCh l e t q a b c d).length = l.length := by
  have hm := emMid_len (a := a) (c := c) h20
  unfold emCh
  split
  · rw [emFlow_len (by rw [hm]; omega), hm]
  · split
    · rw [emFlow_len (by rw [hm]; omega), hm]
    · rw [emMsgN_len (by rw [hm]; omega), hm]
theorem emFlowN_bd (l : List UInt8) (e : Nat) (t : Tup) (a b c d : Int) (k : Nat) : 0 ≤ emFlowN l e t a b c d k ∧ emFlowN l e t a b c d k ≤ 65535 := updates_bd (get16_bd _ _)
/-- the embedded packet that lies in a block: its bytes, where it ends, between whom it goes, whether it asks -/
def emCells (s : ByteArray) (e : Int) (t : Tup) (q : Bool) : Array Value := #[.string s, .int .i64 e, .int .u8 t.p, .int .u32 t.a, .int .u16 t.b, .int .u32 t.c, .int .u16 t.d, .bool q]
def Em (w : World) (B : Nat) (s : ByteArray) (e : Int) (t : Tup) (q : Bool) : Prop := Cells w B (emCells s e t q) 244
/-- of what lay there, just block B is another one, that holds these cells -/
def Turned (w : World) (B : Nat) (cs : Array Value) (T : TypeId) (e : Ending) (w' : World) : Prop := e = .returned (.tuple #[]) ∧ Cells w' B cs T ∧ Only (fun i => i = B) w w'
end Go.Proofs.YtedfdphapcanoaaGreatDoor
end

section
/- porterref08.Wrong: an error about a short packet, by the document's parts. -/
set_option linter.unusedVariables false
set_option linter.unusedSimpArgs false
namespace Go.Proofs.YtedfdphapcanoaaGreatDoor
open Go.RowKit

theorem wrong_of (a c k : Int) (about y l1 out : ByteArray) (w : World) (h : about.size ≤ 548)
    (c1 : ∀ W, Calls Tryz.prog 110 #[.agg #[.int .u8 k, .int .u8 1, .int .u16 0, .string { data := #[0, 0, 0, 0] }, .string about]] W (Ret (.tuple #[.string y, .int .i64 0]) W))
    (c2 : ∀ W, Calls Tryz.prog 111 #[.string y] W (Ret (.string l1) W))
    (c3 : ∀ W, Calls Tryz.prog 92 #[.agg #[.int .u8 0, .int .u16 0, .bool false, .int .u8 64, .int .u8 1, .int .u32 a, .int .u32 c, .string { data := #[] }], .string l1] W (Ret (.tuple #[.string out, .int .i64 0]) W)) :
    Calls Tryz.prog 51 #[.int .u32 a, .int .u32 c, .int .u8 k, .string about] w (Ret (.string out) w) := by
  have i1 : (about.size : Int) ≤ 548 := by omega
  have i2 : min (about.size : Int) 548 = (about.size : Int) := by omega
  have i3 : about.extract 0 about.size = about := by
    apply ByteArray.ext
    simp
  have C1 := hide c1; have C2 := hide c2; have C3 := hide c3
  clear c1 c2 c3 h
  go_enter Tryz.func51, Tryz.ntmps51
  go_wp2_with (first | (go_at_call 110; (with_reducible refine (C1.out _).mono ?_); rintro e w1 ⟨rfl, b1⟩) | (go_at_call 111; (with_reducible refine (C2.out _).mono ?_); rintro e w2 ⟨rfl, b2⟩) | (go_at_call 92; (with_reducible refine (C3.out _).mono ?_); rintro e w3 ⟨rfl, b3⟩))
  go_ret
  exact ⟨rfl, bstep (bstep b1 b2) b3⟩
end Go.Proofs.YtedfdphapcanoaaGreatDoor
end
