/- Several texts of this claim, one behind the other. -/
import Derived.Test.YtilfcikhipadpaaGreatDoorK30c

section
/- rewrite.Apply over this program. -/
set_option linter.unusedVariables false
set_option linter.unusedSimpArgs false
namespace Go.Proofs.YtilfcikhipadpaaGreatDoor
open Go.RowKit Go.Lib Rx

/-- why a packet is not changed -/
def rwWhy (s : ByteArray) : Int := if seenWhy s ≠ 0 then seenWhy s else if (seenOf s).l < 2 then 8 else 0
/-- a packet, changed -/
def rwNew (s : ByteArray) (a b c d : Int) : List UInt8 := headNew ((L s).take (ipOwn (L s)).toNat) a c ++ loadNew (seenOf s) (L (ipRest s)) (((L s).drop 12).take 8) a b c d
def rwOut (s : ByteArray) (a b c d : Int) : ByteArray := if rwWhy s = 0 then S (rwNew s a b c d) else { data := #[] }
theorem rw_Apply_bad (a b c d : Int) (x0 x1 x2 x3 x4 x5 x6 x8 : Int) (x7 : Bool) (s : ByteArray) (r : Int) (w : World) (K0 : Kinds w) (hr : r ≠ 0)
    (c1 : ∀ W, Kinds W → Calls Tryz.prog 27 #[.string s] W (Ret (.tuple #[.agg #[.int .u8 x0, .int .u32 x1, .int .u16 x2, .int .u32 x3, .int .u16 x4, .int .i64 x5, .int .u8 x6, .bool x7, .int .u8 x8], .int .i64 r]) W)) :
    Calls Tryz.prog 65 #[.string s, .agg #[.int .u32 a, .int .u16 b, .int .u32 c, .int .u16 d]] w (Ret (.tuple #[.string { data := #[] }, .int .i64 r]) w) := by
  exact run (args := [.string s, .agg #[.int .u32 a, .int .u16 b, .int .u32 c, .int .u16 d]]) [does 4 (args := [.string s]) (fun W h => c1 W (K0.below h)), yes 14 (bne_iff_ne.2 hr)]
theorem rw_Apply_ttl (a b c d : Int) (x0 x1 x2 x3 x4 x5 x6 x8 : Int) (x7 : Bool) (s : ByteArray) (w : World) (K0 : Kinds w) (hr : x8 < 2)
    (c1 : ∀ W, Kinds W → Calls Tryz.prog 27 #[.string s] W (Ret (.tuple #[.agg #[.int .u8 x0, .int .u32 x1, .int .u16 x2, .int .u32 x3, .int .u16 x4, .int .i64 x5, .int .u8 x6, .bool x7, .int .u8 x8], .int .i64 0]) W)) :
    Calls Tryz.prog 65 #[.string s, .agg #[.int .u32 a, .int .u16 b, .int .u32 c, .int .u16 d]] w (Ret (.tuple #[.string { data := #[] }, .int .i64 8]) w) := by
  exact run (args := [.string s, .agg #[.int .u32 a, .int .u16 b, .int .u32 c, .int .u16 d]]) [does 4 (args := [.string s]) (fun W h => c1 W (K0.below h)), yes 19 (decide_eq_true hr)]
theorem rw_Apply_good (a b c d : Int) (x0 x1 x2 x3 x4 x5 x6 x8 : Int) (x7 : Bool) (h0 h1 h3 h4 h5 h6 : Int) (h2 : Bool) (o l : ByteArray) (s t1 t2 : ByteArray) (w : World) (K0 : Kinds w) (hr : ¬ x8 < 2) (hs : s.size ≤ 140737488351232) (ho : 20 + o.size ≤ s.size) (hz : t1.size + t2.size ≤ 1000000)
    (c1 : ∀ W, Kinds W → Calls Tryz.prog 27 #[.string s] W (Ret (.tuple #[.agg #[.int .u8 x0, .int .u32 x1, .int .u16 x2, .int .u32 x3, .int .u16 x4, .int .i64 x5, .int .u8 x6, .bool x7, .int .u8 x8], .int .i64 0]) W))
    (c2 : ∀ W, Calls Tryz.prog 74 #[.string s] W (Ret (.tuple #[.agg #[.int .u8 h0, .int .u16 h1, .bool h2, .int .u8 h3, .int .u8 h4, .int .u32 h5, .int .u32 h6, .string o], .string l, .int .i64 0]) W))
    (c3 : ∀ W, Calls Tryz.prog 106 #[.agg #[.int .u32 a, .int .u16 b, .int .u32 c, .int .u16 d], .string (s.extract 0 (20 + o.size))] W (Ret (.string t1) W))
    (c4 : ∀ W, Calls Tryz.prog 107 #[.agg #[.int .u32 a, .int .u16 b, .int .u32 c, .int .u16 d], .agg #[.int .u8 x0, .int .u32 x1, .int .u16 x2, .int .u32 x3, .int .u16 x4, .int .i64 x5, .int .u8 x6, .bool x7, .int .u8 x8], .string l, .string (s.extract 12 20)] W (Ret (.string t2) W)) :
    Calls Tryz.prog 65 #[.string s, .agg #[.int .u32 a, .int .u16 b, .int .u32 c, .int .u16 d]] w (Ret (.tuple #[.string (t1 ++ t2), .int .i64 0]) w) := by
  have ew : IntKind.i64.wrap (20 + (o.size : Int)) = ((20 + o.size : Nat) : Int) := by rw [IntWalk.i64_in _ (by omega)]; rfl
  have ez : (IntKind.i64.wrap (20 + (o.size : Int))).toNat = 20 + o.size := by rw [ew]; rfl
  rw [← ez] at c3
  exact run (args := [.string s, .agg #[.int .u32 a, .int .u16 b, .int .u32 c, .int .u16 d]]) [does 4 (args := [.string s]) (fun W h => c1 W (K0.below h)), no 19 (decide_eq_false hr), does 21 (args := [.string s]) (fun W _ => c2 W), sH 36 9 .i64 s (IntKind.i64.wrap (20 + (o.size : Int))), does 37 (args := [.agg #[.int .u32 a, .int .u16 b, .int .u32 c, .int .u16 d], .string (s.extract 0 (IntKind.i64.wrap (20 + (o.size : Int))).toNat)]) (fun W _ => c3 W), sLH 42 9 .i64 .i64 s 12 20, does 43 (args := [.agg #[.int .u32 a, .int .u16 b, .int .u32 c, .int .u16 d], .agg #[.int .u8 x0, .int .u32 x1, .int .u16 x2, .int .u32 x3, .int .u16 x4, .int .i64 x5, .int .u8 x6, .bool x7, .int .u8 x8], .string l, .string (s.extract 12 20)]) (fun W _ => c4 W), cat 44 9 t1 t2]

set_option maxHeartbeats 4000000 in
theorem rw_Apply (a b c d : Int) (s : ByteArray) (w : World) (K0 : Kinds w) (ha : 0 ≤ a ∧ a ≤ 4294967295) (hb : 0 ≤ b ∧ b ≤ 65535) (hc : 0 ≤ c ∧ c ≤ 4294967295) (hd : 0 ≤ d ∧ d ≤ 65535) (hs : s.size ≤ 140737488351232) :
    Calls Tryz.prog 65 #[.string s, .agg #[.int .u32 a, .int .u16 b, .int .u32 c, .int .u16 d]] w (Ret (.tuple #[.string (rwOut s a b c d), .int .i64 (rwWhy s)]) w) := by
  have c1 := fun W K => tu_Of s W K hs
  by_cases h1 : seenWhy s ≠ 0
  · have e1 : rwWhy s = seenWhy s := by unfold rwWhy; rw [if_pos h1]
    have e2 : rwOut s a b c d = { data := #[] } := by unfold rwOut; rw [e1, if_neg h1]
    rw [e1, e2]
    unfold Seen.cells at c1
    exact rw_Apply_bad a b c d _ _ _ _ _ _ _ _ _ s _ w K0 h1 c1
  have h1' : seenWhy s = 0 := by omega
  rw [h1'] at c1
  by_cases h2 : (seenOf s).l < 2
  · have e1 : rwWhy s = 8 := by unfold rwWhy; rw [if_neg h1, if_pos h2]
    have e2 : rwOut s a b c d = { data := #[] } := by unfold rwOut; rw [e1, if_neg (by decide)]
    rw [e1, e2]
    unfold Seen.cells at c1
    exact rw_Apply_ttl a b c d _ _ _ _ _ _ _ _ _ s w K0 h2 c1
  have e1 : rwWhy s = 0 := by unfold rwWhy; rw [if_neg h1, if_neg h2]
  have e2 : rwOut s a b c d = S (rwNew s a b c d) := by unfold rwOut; rw [if_pos e1]
  rw [e1, e2]
  have hip : ipWhy s = 0 := by
    unfold seenWhy at h1'
    by_cases h : ipWhy s = 0
    · exact h
    · rw [if_neg h] at h1'; exact h1'
  have hlw : loadWhy (hdOf s).p (ipRest s) = 0 := by unfold seenWhy at h1'; rwa [if_pos hip] at h1'
  have hso : seenOf s = loadSeen (hdOf s) (ipRest s) := by unfold seenOf; rw [if_pos h1']
  obtain ⟨a1, a2, a3, a4, a5, ho, a6, key, hh⟩ := ip_head s hip
  have hrest : ipRest s = s.extract (ipOwn (L s)).toNat (ipAll (L s)).toNat := by unfold ipRest; rw [if_pos hip]
  have hp : (ipRest s).size = (ipAll (L s)).toNat - (ipOwn (L s)).toNat := by rw [hrest, ByteArray.size_extract]; omega
  have hl : (seenOf s).l = at_ (L s) 8 := by
    rw [hso]; unfold loadSeen
    split
    · rfl
    split
    · rfl
    split
    · rfl
    split <;> rfl
  have hpp : (seenOf s).t.p = 6 → 20 ≤ (ipRest s).size := by
    intro h
    rw [hso] at h
    unfold loadSeen at h
    by_cases h6 : (hdOf s).p = 6
    · unfold loadWhy at hlw
      rw [if_pos h6] at hlw
      by_cases ht : tcpIs (ipRest s) = true
      · unfold tcpIs at ht; simp at ht; omega
      · rw [if_neg ht] at hlw; omega
    · rw [if_neg h6] at h
      split at h
      · simp at h
      split at h
      · simp at h
      split at h <;> simp at h
  have h8 : 8 ≤ (ipRest s).size := by
    unfold loadWhy at hlw
    split at hlw
    · split at hlw
      · rename_i ht; unfold tcpIs at ht; simp at ht; omega
      · omega
    split at hlw
    · split at hlw
      · rename_i ht; unfold udpIs at ht; simp at ht; omega
      · omega
    split at hlw
    · split at hlw <;> omega
    · omega
  have c2 := fun W => ip_Parse s W hs
  rw [show hdRes s = hdOf s from by unfold hdRes; rw [if_pos hip], hip] at c2
  have hx : s.extract 0 (20 + (hdOf s).o.size) = s.extract 0 (ipOwn (L s)).toNat := by rw [ho, show 20 + ((ipOwn (L s)).toNat - 20) = (ipOwn (L s)).toNat from by omega]
  have hLx : L (s.extract 0 (20 + (hdOf s).o.size)) = (L s).take (ipOwn (L s)).toNat := by rw [hx, L_to]
  have hxz : (s.extract 0 (20 + (hdOf s).o.size)).size = (ipOwn (L s)).toNat := by rw [hx, ByteArray.size_extract]; omega
  have h12 : (s.extract 12 20).size = 8 := by rw [ByteArray.size_extract]; omega
  have c3 := fun W => rw_header a b c d (s.extract 0 (20 + (hdOf s).o.size)) W ha hc (by omega) (by omega) (by rw [hLx, at_take (by omega)]; omega)
  rw [hLx] at c3
  have c4 := fun W => rw_load a b c d (seenOf s) (ipRest s) (s.extract 12 20) W ha hb hc hd (by omega) h12 hpp h8
  rw [show L (s.extract 12 20) = ((L s).drop 12).take 8 from L_extract _ _ _] at c4
  have hz1 : (headNew ((L s).take (ipOwn (L s)).toNat) a c).length ≤ 100000 := by
    unfold headNew lifeOf
    simp [put16_length, show (ipsOf a c).length = 8 from rfl]
    omega
  have hz2 : (loadNew (seenOf s) (L (ipRest s)) (((L s).drop 12).take 8) a b c d).length ≤ 100000 := by
    have hq : (L (ipRest s)).length ≤ 2048 := by rw [L_length]; omega
    have hq8 : 8 ≤ (L (ipRest s)).length := by rw [L_length]; exact h8
    unfold loadNew
    split
    · rename_i g6
      have := hpp g6
      unfold flowNew
      rw [lay_length (by simp [putW_length, L_length]; omega)]
      simp [putW_length]; omega
    split
    · unfold flowNew
      rw [lay_length (by simp [putW_length]; omega)]
      simp [putW_length]; omega
    split
    · omega
    split
    · unfold queryOf; rw [lay_length (by rw [lay_length (by omega)]; omega), lay_length (by omega)]; omega
    · unfold queryOf; rw [lay_length (by rw [lay_length (by omega)]; omega), lay_length (by omega)]; omega
  have hout : S (headNew ((L s).take (ipOwn (L s)).toNat) a c) ++ S (loadNew (seenOf s) (L (ipRest s)) (((L s).drop 12).take 8) a b c d) = S (rwNew s a b c d) := by rw [S_append]; rfl
  rw [← hout]
  unfold Hd.cells at c2
  have hoz : 20 + (hdOf s).o.size ≤ s.size := by omega
  have hzz : (S (headNew ((L s).take (ipOwn (L s)).toNat) a c)).size + (S (loadNew (seenOf s) (L (ipRest s)) (((L s).drop 12).take 8) a b c d)).size ≤ 1000000 := by rw [S_size, S_size]; omega
  generalize seenOf s = x at *
  unfold Seen.cells at c1 c4
  exact rw_Apply_good a b c d _ _ _ _ _ _ _ _ _ _ _ _ _ _ _ _ _ _ s _ _ w K0 h2 hs hoz hzz c1 c2 c3 c4
end Go.Proofs.YtilfcikhipadpaaGreatDoor
end

section
/- Errors, and what they are about (embeds): what is told of them. Plain. -/
set_option linter.unusedVariables false
set_option linter.unusedSimpArgs false
namespace Go.Proofs.YtilfcikhipadpaaGreatDoor
open Go.RowKit

/-- the bytes that an error's message has of the packet -/
def emData (s : ByteArray) : ByteArray := (msgOf (ipRest s)).d
def emsWhy (s : ByteArray) : Int := if seenWhy s ≠ 0 then seenWhy s else if (seenOf s).k ≠ 3 then 15 else emWhy (L (emData s))
def trWhy (s : ByteArray) : Int := if emsWhy s ≠ 0 then emsWhy s else rwWhy s
def emEven (l : List UInt8) : Nat := l.length / 2 * 2
def emSum (s : ByteArray) (a b c d : Int) : Int := updates (msgOf (ipRest s)).n ((L (emData s)).take (emEven (L (emData s)))) ((emNew (L (emData s)) a b c d).take (emEven (L (emData s))))
/-- the error, both packets changed -/
def trNew (s : ByteArray) (oa ob oc od a b c d : Int) : List UInt8 :=
  lay ((L (rwOut s oa ob oc od)).take ((rwOut s oa ob oc od).size - (emData s).size) ++ emNew (L (emData s)) a b c d) ((rwOut s oa ob oc od).size - (emData s).size - 6) (emSum s a b c d)
def trOut (s : ByteArray) (oa ob oc od a b c d : Int) : ByteArray := if trWhy s = 0 then S (trNew s oa ob oc od a b c d) else { data := #[] }
end Go.Proofs.YtilfcikhipadpaaGreatDoor
end

section
/- Packets, changed: plain. No walk. -/
set_option linter.unusedVariables false
namespace Go.Proofs.YtilfcikhipadpaaGreatDoor
open Go.RowKit

theorem updates_mod {n : Int} {a b : List UInt8} (hn : 0 ≤ n ∧ n ≤ 65535) (hz : a.length = b.length) (h2 : a.length % 2 = 0) :
    (updates n a b - (n + tot (words a) - tot (words b))) % 65535 = 0 := by
  have hl : (words a).length = (words b).length := by
    have := words_length h2
    have := words_length (l := b) (by omega)
    omega
  unfold updates
  rw [if_neg (by omega)]
  have h1 := updF_mod ((words a).zip (words b)) n hn zip_bd
  rwa [zip_fst hl, zip_snd hl] at h1

/-! ### lay -/
theorem at_lay {l : List UInt8} {k i : Nat} {n : Int} (h : k + 2 ≤ l.length) (hi : i < k ∨ k + 2 ≤ i) : at_ (lay l k n) i = at_ l i := by
  rcases hi with hi | hi
  · rw [← at_take (n := k) hi, lay_take h, at_take hi]
  · have e1 : at_ ((lay l k n).drop (k + 2)) (i - (k + 2)) = at_ (l.drop (k + 2)) (i - (k + 2)) := by rw [lay_drop h]
    rw [at_drop, at_drop] at e1
    rwa [show k + 2 + (i - (k + 2)) = i from by omega] at e1
theorem app_lay {a l : List UInt8} {k j : Nat} {n : Int} (hk : k = a.length + j) : a ++ lay l j n = lay (a ++ l) k n := by
  subst hk
  unfold lay
  rw [List.take_length_add_append, Nat.add_assoc, List.drop_length_add_append]
  simp
theorem lay_self {l : List UInt8} {k : Nat} (h : k + 2 ≤ l.length) : lay l k (be16 l k) = l := by
  have e1 : be16 l k = ((l[k].toNat : Int)) * 256 + (l[k + 1].toNat : Int) := by
    simp [be16, at_, List.getD_eq_getElem?_getD, List.getElem?_eq_getElem (show k < l.length by omega), List.getElem?_eq_getElem (show k + 1 < l.length by omega)]
  unfold lay
  rw [e1, put16_be, List.append_assoc]
  conv => rhs; rw [← List.take_append_drop k l, List.drop_eq_getElem_cons (show k < l.length by omega), List.drop_eq_getElem_cons (show k + 1 < l.length by omega)]
  rfl
theorem lay_zero {l : List UInt8} {k : Nat} (h : k + 2 ≤ l.length) : lay l k 0 = (l.set k 0).set (k + 1) 0 := by
  have e : l = l.take k ++ ([l[k], l[k + 1]] ++ l.drop (k + 2)) := by
    conv => lhs; rw [← List.take_append_drop k l, List.drop_eq_getElem_cons (show k < l.length by omega), List.drop_eq_getElem_cons (show k + 1 < l.length by omega)]
    rfl
  have z : (l.take k).length = k := by simp; omega
  unfold lay
  generalize l.take k = u at *
  generalize l.drop (k + 2) = r at *
  generalize l[k] = x at *
  generalize l[k + 1] = y at *
  subst z
  rw [e]
  simp [put16, byt]
theorem ports_self {l : List UInt8} (h : 4 ≤ l.length) : putW [be16 l 0, be16 l 2] ++ l.drop 4 = l := by
  match l, h with
  | a :: b :: c :: d :: r, _ =>
    show putW [(a.toNat : Int) * 256 + (b.toNat : Int), (c.toNat : Int) * 256 + (d.toNat : Int)] ++ r = _
    unfold putW
    simp only [List.flatMap_cons, List.flatMap_nil, put16_be]
    rfl

/-! ### whole packets: a header, and what it says is behind it -/
structure Whole (H P : List UInt8) : Prop where
  own : ipOwn H = (H.length : Int)
  h20 : 20 ≤ H.length
  four : at_ H 0 / 16 = 4
  all : be16 H 2 = (H.length : Int) + P.length
  big : H.length + P.length ≤ 2048
  sum : holds [H] = true
  cut : be16 H 6 = 0 ∨ be16 H 6 = 16384
theorem Whole.h60 {H P : List UInt8} (w : Whole H P) : H.length ≤ 60 := by
  have := w.own
  have := at_bd H 0
  unfold ipOwn at *; omega
def hdL (H : List UInt8) : Hd := ⟨at_ H 1, be16 H 4, decide (be16 H 6 = 16384), at_ H 8, at_ H 9, be32 H 12, be32 H 16, S (H.drop 20)⟩
theorem own_app {H X : List UInt8} (h : 1 ≤ H.length) : ipOwn (H ++ X) = ipOwn H := by unfold ipOwn; rw [at_left (by omega)]
theorem all_app {H X : List UInt8} (h : 20 ≤ H.length) : ipAll (H ++ X) = be16 H 2 := by
  show get16 (H ++ X) ((2 : Nat) : Int) = _
  rw [get16_nat (by simp; omega), be16_left (by omega)]
theorem whole_to {H P : List UInt8} (R : List UInt8) (w : Whole H P) :
    ipWhy (S (H ++ P ++ R)) = 0 ∧ hdOf (S (H ++ P ++ R)) = hdL H ∧ ipRest (S (H ++ P ++ R)) = S P := by
  obtain ⟨h1, h2, h3, h4, h5, h6, h7⟩ := w
  have eo : ipOwn (L (S (H ++ P ++ R))) = H.length := by rw [L_S, List.append_assoc, own_app (by omega), h1]
  have ea : ipAll (L (S (H ++ P ++ R))) = (H.length : Int) + P.length := by rw [L_S, List.append_assoc, all_app h2, h4]
  have ez : (S (H ++ P ++ R)).size = H.length + P.length + R.length := by rw [S_size]; simp; omega
  have et : (L (S (H ++ P ++ R))).take (ipOwn (L (S (H ++ P ++ R)))).toNat = H := by rw [eo, L_S, Int.toNat_natCast, List.append_assoc, List.take_left]
  have e0 : at_ (L (S (H ++ P ++ R))) 0 = at_ H 0 := by rw [L_S, List.append_assoc, at_left (by omega)]
  have e6 : get16 (L (S (H ++ P ++ R))) 6 = be16 H 6 := by
    show get16 _ ((6 : Nat) : Int) = _
    rw [L_S, get16_nat (by simp; omega), List.append_assoc, be16_left (by omega)]
  have hw : ipWhy (S (H ++ P ++ R)) = 0 := by
    unfold ipWhy
    rw [if_neg (by omega), if_neg (by rw [e0]; omega), if_neg, if_neg, if_neg]
    · rw [e6]; omega
    · rw [et, h6]; decide
    · unfold ipFits
      rw [eo, ea, ez]
      simp; omega
  refine ⟨hw, ?_, ?_⟩
  · unfold hdOf hdL
    have f1 : at_ (L (S (H ++ P ++ R))) 1 = at_ H 1 := by rw [L_S, List.append_assoc, at_left (by omega)]
    have f8 : at_ (L (S (H ++ P ++ R))) 8 = at_ H 8 := by rw [L_S, List.append_assoc, at_left (by omega)]
    have f9 : at_ (L (S (H ++ P ++ R))) 9 = at_ H 9 := by rw [L_S, List.append_assoc, at_left (by omega)]
    have f4 : get16 (L (S (H ++ P ++ R))) 4 = be16 H 4 := by
      show get16 _ ((4 : Nat) : Int) = _
      rw [L_S, get16_nat (by simp; omega), List.append_assoc, be16_left (by omega)]
    have f12 : get32 (L (S (H ++ P ++ R))) 12 = be32 H 12 := by
      show get32 _ ((12 : Nat) : Int) = _
      rw [L_S, get32_nat (by simp; omega), List.append_assoc, be32_left (by omega)]
    have f16 : get32 (L (S (H ++ P ++ R))) 16 = be32 H 16 := by
      show get32 _ ((16 : Nat) : Int) = _
      rw [L_S, get32_nat (by simp; omega), List.append_assoc, be32_left (by omega)]
    have fo : (S (H ++ P ++ R)).extract 20 (ipOwn (L (S (H ++ P ++ R)))).toNat = S (H.drop 20) := by
      rw [← S_L ((S (H ++ P ++ R)).extract _ _), L_extract, eo, L_S, Int.toNat_natCast, List.append_assoc, List.drop_append_of_le_length (by omega), List.take_left' (by simp)]
    rw [f1, f8, f9, f4, e6, f12, f16, fo]
  · unfold ipRest
    rw [if_pos hw, ← S_L ((S (H ++ P ++ R)).extract _ _), L_extract, eo, ea, L_S, List.append_assoc, Int.toNat_natCast, List.drop_left, List.take_left' (by omega)]
theorem whole_of {s : ByteArray} (h : ipWhy s = 0) : ∃ H P R, s = S (H ++ P ++ R) ∧ Whole H P := by
  obtain ⟨h20, h2, h3, h4, h5⟩ := ipWhy_0 h
  have f0 : 20 ≤ ipOwn (L s) ∧ ipOwn (L s) ≤ ipAll (L s) ∧ ipAll (L s) ≤ s.size ∧ ipAll (L s) ≤ 2048 := by unfold ipFits at h3; simpa [and_assoc] using h3
  have hz : (L s).length = s.size := L_length s
  have z1 : ((L s).take (ipOwn (L s)).toNat).length = (ipOwn (L s)).toNat := by simp; omega
  have z2 : (((L s).drop (ipOwn (L s)).toNat).take ((ipAll (L s)).toNat - (ipOwn (L s)).toNat)).length = (ipAll (L s)).toNat - (ipOwn (L s)).toNat := by simp; omega
  refine ⟨(L s).take (ipOwn (L s)).toNat, ((L s).drop (ipOwn (L s)).toNat).take ((ipAll (L s)).toNat - (ipOwn (L s)).toNat), (L s).drop (ipAll (L s)).toNat, ?_, ?_, ?_, ?_, ?_, ?_, ?_, ?_⟩
  · have e : (L s).take (ipOwn (L s)).toNat ++ ((L s).drop (ipOwn (L s)).toNat).take ((ipAll (L s)).toNat - (ipOwn (L s)).toNat) ++ (L s).drop (ipAll (L s)).toNat = L s := by
      have q : (L s).drop (ipAll (L s)).toNat = ((L s).drop (ipOwn (L s)).toNat).drop ((ipAll (L s)).toNat - (ipOwn (L s)).toNat) := by
        rw [List.drop_drop]; congr 1; omega
      rw [q, List.append_assoc, List.take_append_drop, List.take_append_drop]
    rw [e, S_L]
  · have : ipOwn ((L s).take (ipOwn (L s)).toNat) = ipOwn (L s) := by
      show at_ ((L s).take _) 0 % 16 * 4 = _
      rw [at_take (by omega)]; rfl
    rw [this, z1]; omega
  · omega
  · rw [at_take (by omega)]; exact h2
  · rw [be16_take (by omega), z1, z2]
    have : ipAll (L s) = be16 (L s) 2 := by show get16 (L s) ((2 : Nat) : Int) = _; exact get16_nat (by omega)
    omega
  · omega
  · exact h4
  · rw [be16_take (by omega)]
    have : get16 (L s) 6 = be16 (L s) 6 := by show get16 (L s) ((6 : Nat) : Int) = _; exact get16_nat (by omega)
    rw [← this]; exact h5

/-! ### a header, changed -/
theorem head_is {H : List UInt8} (a c : Int) (h : 20 ≤ H.length) : headNew H a c = (H.take 8 ++ lifeOf H ++ put16 (headSum H a c)) ++ (put32 a ++ (put32 c ++ H.drop 20)) := by
  unfold headNew ipsOf; simp only [List.append_assoc]
theorem headSum_bd (H : List UInt8) (a c : Int) : 0 ≤ headSum H a c ∧ headSum H a c ≤ 65535 := updates_bd (be16_bd _ _)
theorem headNew_length {H : List UInt8} (a c : Int) (h : 20 ≤ H.length) : (headNew H a c).length = H.length := by
  unfold headNew lifeOf
  simp [put16_length, show (ipsOf a c).length = 8 from rfl]
  omega
theorem head_whole {H P Q : List UInt8} {a c : Int} (w : Whole H P) (ha : 0 ≤ a ∧ a ≤ 4294967295) (hc : 0 ≤ c ∧ c ≤ 4294967295) (h8 : 1 ≤ at_ H 8) (hq : Q.length = P.length) :
    Whole (headNew H a c) Q ∧ at_ (headNew H a c) 8 = at_ H 8 - 1 ∧ at_ (headNew H a c) 9 = at_ H 9 ∧ be32 (headNew H a c) 12 = a ∧ be32 (headNew H a c) 16 = c := by
  obtain ⟨h1, h2, h3, h4, h5, h6, h7⟩ := w
  have hz := headNew_length a c h2
  have hm := headSum_bd H a c
  have hu : (headSum H a c - (be16 H 10 + tot (words ((H.drop 8).take 2 ++ (H.drop 12).take 8)) - tot (words (lifeOf H ++ ipsOf a c)))) % 65535 = 0 :=
    updates_mod (be16_bd _ _) (by simp [lifeOf, show (ipsOf a c).length = 8 from rfl]; omega) (by simp; omega)
  have e12 : be32 (headNew H a c) 12 = a := by
    rw [head_is a c h2, be32_right (by simp [lifeOf, put16_length]; omega)]
    rw [show 12 - (H.take 8 ++ lifeOf H ++ put16 (headSum H a c)).length = 0 from by simp [lifeOf, put16_length]; omega]
    exact be32_put a _ ha.1 ha.2
  have e16 : be32 (headNew H a c) 16 = c := by
    rw [head_is a c h2, ← List.append_assoc, be32_right (by simp [lifeOf, put16_length, put32_length]; omega)]
    rw [show 16 - (H.take 8 ++ lifeOf H ++ put16 (headSum H a c) ++ put32 a).length = 0 from by simp [lifeOf, put16_length, put32_length]; omega]
    exact be32_put c _ hc.1 hc.2
  rw [holds_iff] at h6
  rw [head_is a c h2] at hz ⊢
  rw [head_is a c h2] at e12 e16
  generalize headSum H a c = m at *
  obtain ⟨b0, b1, b2, b3, b4, b5, b6, b7, b8, b9, b10, b11, b12, b13, b14, b15, b16, b17, b18, b19, o, rfl⟩ := twenty h2
  have g8 : 1 ≤ (b8.toNat : Int) := h8
  have q8 : ((byt ((b8.toNat : Int) - 1)).toNat : Int) = (b8.toNat : Int) - 1 := by
    have := b8.toNat_lt
    rw [byt_int _ (by omega)]; omega
  have hA : tot (words (put32 a ++ (put32 c ++ o))) = a / 65536 + (a % 65536 + (c / 65536 + (c % 65536 + tot (words o)))) := by
    unfold put32
    rw [List.append_assoc, List.append_assoc, words_put _ _ (by omega), words_put _ _ (by omega), words_put _ _ (by omega), words_put _ _ (by omega)]
    rfl
  have hB : tot (words (ipsOf a c)) = a / 65536 + (a % 65536 + (c / 65536 + (c % 65536 + 0))) := by
    unfold ipsOf put32
    rw [List.append_assoc, words_put _ _ (by omega), words_put _ _ (by omega), words_put _ _ (by omega), ← List.append_nil (put16 (c % 65536)), words_put _ _ (by omega)]
    rfl
  have tH : tot (words (b0 :: b1 :: b2 :: b3 :: b4 :: b5 :: b6 :: b7 :: b8 :: b9 :: b10 :: b11 :: b12 :: b13 :: b14 :: b15 :: b16 :: b17 :: b18 :: b19 :: o)) = ((b0.toNat : Int) * 256 + (b1.toNat : Int)) + (((b2.toNat : Int) * 256 + (b3.toNat : Int)) + (((b4.toNat : Int) * 256 + (b5.toNat : Int)) + (((b6.toNat : Int) * 256 + (b7.toNat : Int)) + (((b8.toNat : Int) * 256 + (b9.toNat : Int)) + (((b10.toNat : Int) * 256 + (b11.toNat : Int)) + (((b12.toNat : Int) * 256 + (b13.toNat : Int)) + (((b14.toNat : Int) * 256 + (b15.toNat : Int)) + (((b16.toNat : Int) * 256 + (b17.toNat : Int)) + (((b18.toNat : Int) * 256 + (b19.toNat : Int)) + tot (words o)))))))))) := rfl
  have tN : tot (words ((b0 :: b1 :: b2 :: b3 :: b4 :: b5 :: b6 :: b7 :: byt ((b8.toNat : Int) - 1) :: b9 :: (put16 m ++ (put32 a ++ (put32 c ++ o)))))) = ((b0.toNat : Int) * 256 + (b1.toNat : Int)) + (((b2.toNat : Int) * 256 + (b3.toNat : Int)) + (((b4.toNat : Int) * 256 + (b5.toNat : Int)) + (((b6.toNat : Int) * 256 + (b7.toNat : Int)) + ((((byt ((b8.toNat : Int) - 1)).toNat : Int) * 256 + (b9.toNat : Int)) + (m + (a / 65536 + (a % 65536 + (c / 65536 + (c % 65536 + tot (words o)))))))))) := by
    rw [← hA, ← tot_cons m, ← words_put m _ hm]; rfl
  have tO : tot (words (lifeOf (b0 :: b1 :: b2 :: b3 :: b4 :: b5 :: b6 :: b7 :: b8 :: b9 :: b10 :: b11 :: b12 :: b13 :: b14 :: b15 :: b16 :: b17 :: b18 :: b19 :: o) ++ ipsOf a c)) = (((byt ((b8.toNat : Int) - 1)).toNat : Int) * 256 + (b9.toNat : Int)) + (a / 65536 + (a % 65536 + (c / 65536 + (c % 65536 + 0)))) := by
    rw [← hB]; rfl
  have tI : tot (words (((b0 :: b1 :: b2 :: b3 :: b4 :: b5 :: b6 :: b7 :: b8 :: b9 :: b10 :: b11 :: b12 :: b13 :: b14 :: b15 :: b16 :: b17 :: b18 :: b19 :: o).drop 8).take 2 ++ ((b0 :: b1 :: b2 :: b3 :: b4 :: b5 :: b6 :: b7 :: b8 :: b9 :: b10 :: b11 :: b12 :: b13 :: b14 :: b15 :: b16 :: b17 :: b18 :: b19 :: o).drop 12).take 8)) = ((b8.toNat : Int) * 256 + (b9.toNat : Int)) + (((b12.toNat : Int) * 256 + (b13.toNat : Int)) + (((b14.toNat : Int) * 256 + (b15.toNat : Int)) + (((b16.toNat : Int) * 256 + (b17.toNat : Int)) + (((b18.toNat : Int) * 256 + (b19.toNat : Int)) + 0)))) := rfl
  have e10 : be16 (b0 :: b1 :: b2 :: b3 :: b4 :: b5 :: b6 :: b7 :: b8 :: b9 :: b10 :: b11 :: b12 :: b13 :: b14 :: b15 :: b16 :: b17 :: b18 :: b19 :: o) 10 = (b10.toNat : Int) * 256 + (b11.toNat : Int) := rfl
  have h64 : 64 ≤ (b0.toNat : Int) := by
    have : (b0.toNat : Int) / 16 = 4 := h3
    omega
  have n0 := tot_nonneg (words_bd o)
  simp only [List.flatMap_cons, List.flatMap_nil, List.append_nil] at h6
  rw [tI, tO, e10] at hu
  rw [tH] at h6
  refine ⟨⟨?_, ?_, ?_, ?_, ?_, ?_, ?_⟩, ?_, ?_, e12, e16⟩
  · rw [hz]; exact h1
  · omega
  · exact h3
  · rw [hz, hq]; exact h4
  · rw [hz, hq]; exact h5
  · rw [holds_iff]
    simp only [List.flatMap_cons, List.flatMap_nil, List.append_nil]
    show tot (words ((b0 :: b1 :: b2 :: b3 :: b4 :: b5 :: b6 :: b7 :: byt ((b8.toNat : Int) - 1) :: b9 :: (put16 m ++ (put32 a ++ (put32 c ++ o)))))) % 65535 = 0 ∧ tot (words ((b0 :: b1 :: b2 :: b3 :: b4 :: b5 :: b6 :: b7 :: byt ((b8.toNat : Int) - 1) :: b9 :: (put16 m ++ (put32 a ++ (put32 c ++ o)))))) ≠ 0
    rw [tN]
    have := b1.toNat_lt; have := b9.toNat_lt
    omega
  · exact h7
  · exact q8
  · rfl
end Go.Proofs.YtilfcikhipadpaaGreatDoor
end

section
/- What a packet carries, changed: plain. No walk. -/
set_option linter.unusedVariables false
namespace Go.Proofs.YtilfcikhipadpaaGreatDoor
open Go.RowKit

theorem pw_len (b d : Int) : (putW [b, d]).length = 4 := rfl

/-! ### a flow -/
section
variable {l ips : List UInt8} {a b c d : Int} {k : Nat}
theorem flow_len (h : k + 2 ≤ l.length) (h4 : 4 ≤ l.length) : (flowNew l ips a b c d k).length = l.length := by
  unfold flowNew
  rw [lay_length (by simp [pw_len]; omega)]
  simp [pw_len]; omega
theorem flow_at (h : k + 2 ≤ l.length) (h4 : 4 ≤ l.length) {i : Nat} (hi : 4 ≤ i) (hk : i < k ∨ k + 2 ≤ i) : at_ (flowNew l ips a b c d k) i = at_ l i := by
  unfold flowNew
  rw [at_lay (by simp [pw_len]; omega) hk, at_right (by simp [pw_len]; omega), at_drop, pw_len]
  congr 1; omega
theorem flow_src (h : k + 2 ≤ l.length) (h4 : 4 ≤ k) (hb : 0 ≤ b ∧ b ≤ 65535) (hd : 0 ≤ d ∧ d ≤ 65535) : be16 (flowNew l ips a b c d k) 0 = b ∧ be16 (flowNew l ips a b c d k) 2 = d := by
  have hx : ∀ x ∈ [b, d], 0 ≤ x ∧ x ≤ 65535 := by intro x hx; simp at hx; rcases hx with rfl | rfl <;> assumption
  unfold flowNew
  constructor
  · rw [lay_other (by simp [pw_len]; omega) (by omega)]
    exact be16_putW hx (l.drop 4) (k := 0) (by simp)
  · rw [lay_other (by simp [pw_len]; omega) (by omega)]
    exact be16_putW hx (l.drop 4) (k := 1) (by simp)
/-- the words of two ends -/
def ends (ips ports : List UInt8) : Int := tot (words (ips ++ ports))
end

/-! ### a query -/
theorem query_len {l : List UInt8} {id : Int} (h : 8 ≤ l.length) : (queryOf l id).length = l.length := by
  unfold queryOf; rw [lay_length (by rw [lay_length (by omega)]; omega), lay_length (by omega)]
theorem query_at {l : List UInt8} {id : Int} (h : 8 ≤ l.length) {i : Nat} (hi : i < 2 ∨ 6 ≤ i) : at_ (queryOf l id) i = at_ l i := by
  unfold queryOf; rw [at_lay (by rw [lay_length (by omega)]; omega) (by omega), at_lay (by omega) (by omega)]
theorem query_id {l : List UInt8} {id : Int} (h : 8 ≤ l.length) (hi : 0 ≤ id ∧ id ≤ 65535) : be16 (queryOf l id) 4 = id := by
  unfold queryOf; rw [lay_other (by rw [lay_length (by omega)]; omega) (by omega), lay_at (by omega) hi]
/-! ### what is seen -/
theorem load_cases {p : Int} {P : List UInt8} (hw : loadWhy p (S P) = 0) : (p = 6 ∧ tcpIs (S P) = true) ∨ (p = 17 ∧ udpIs (S P) = true) ∨ (p = 1 ∧ 8 ≤ P.length ∧ (qIs (msgOf (S P)) = true ∨ qErr (msgOf (S P)) = true)) := by
  unfold loadWhy at hw
  by_cases h6 : p = 6
  · rw [if_pos h6] at hw
    left; refine ⟨h6, ?_⟩
    by_cases h : tcpIs (S P) = true
    · exact h
    · rw [if_neg h] at hw; omega
  rw [if_neg h6] at hw
  by_cases h17 : p = 17
  · rw [if_pos h17] at hw
    right; left; refine ⟨h17, ?_⟩
    by_cases h : udpIs (S P) = true
    · exact h
    · rw [if_neg h] at hw; omega
  rw [if_neg h17] at hw
  by_cases h1 : p = 1
  · rw [if_pos h1] at hw
    right; right
    by_cases h8 : (S P).size < 8
    · rw [if_pos h8] at hw; omega
    rw [if_neg h8] at hw
    rw [S_size] at h8
    refine ⟨h1, by omega, ?_⟩
    by_cases h : qIs (msgOf (S P)) = true ∨ qErr (msgOf (S P)) = true
    · exact h
    · rw [if_neg h] at hw; omega
  · rw [if_neg h1] at hw; omega
theorem tcpIs_len {P : List UInt8} (h : tcpIs (S P) = true) : 20 ≤ P.length := by
  unfold tcpIs at h; rw [S_size] at h; simp at h; omega
theorem udpIs_len {P : List UInt8} (h : udpIs (S P) = true) : 8 ≤ P.length := by
  unfold udpIs at h; rw [S_size] at h; simp at h; omega
theorem tcpIs_of {P Q : List UInt8} (h : tcpIs (S P) = true) (hz : Q.length = P.length) (h12 : at_ Q 12 = at_ P 12) : tcpIs (S Q) = true := by
  unfold tcpIs tcpOwn at *
  rw [S_size, L_S] at *
  rw [hz, h12]; exact h
theorem udpIs_of {P Q : List UInt8} (h : udpIs (S P) = true) (hz : Q.length = P.length) (h4 : be16 Q 4 = be16 P 4) : udpIs (S Q) = true := by
  have h8 := udpIs_len h
  have e : get16 Q 4 = get16 P 4 := by
    show get16 Q ((4 : Nat) : Int) = get16 P ((4 : Nat) : Int)
    rw [get16_nat (by omega), get16_nat (by omega), h4]
  unfold udpIs at *
  rw [S_size, L_S] at *
  rw [hz, e]; exact h
theorem msg_t (P : List UInt8) : (msgOf (S P)).t = at_ P 0 := rfl
theorem msg_c (P : List UInt8) : (msgOf (S P)).c = at_ P 1 := rfl
theorem msg_id {P : List UInt8} (h : 8 ≤ P.length) : get16 (L (msgOf (S P)).r) 0 = be16 P 4 := by
  show get16 (L ((S P).extract 4 8)) ((0 : Nat) : Int) = _
  rw [get16_nat (by rw [L_length, ByteArray.size_extract, S_size]; omega), L_extract, L_S, be16_take (by omega), be16_drop]
theorem asks_of {P Q : List UInt8} (h0 : at_ Q 0 = at_ P 0) (h1 : at_ Q 1 = at_ P 1) : qAsk (msgOf (S Q)) = qAsk (msgOf (S P)) ∧ qIs (msgOf (S Q)) = qIs (msgOf (S P)) ∧ qErr (msgOf (S Q)) = qErr (msgOf (S P)) := by
  unfold qAsk qIs qErr
  simp only [msg_t, msg_c, h0, h1]
  exact ⟨rfl, rfl, rfl⟩
theorem seen_tcp {h : Hd} {P : List UInt8} (hp : h.p = 6) (hz : 20 ≤ P.length) : loadSeen h (S P) = ⟨⟨6, h.s, be16 P 0, h.d, be16 P 2⟩, if bits .and .u8 (at_ P 13) 23 = 2 then 1 else 2, at_ P 13, false, h.l⟩ := by
  have e0 : (segOf (S P)).s = be16 P 0 := by show get16 P ((0 : Nat) : Int) = _; exact get16_nat (by omega)
  have e2 : (segOf (S P)).d = be16 P 2 := by show get16 P ((2 : Nat) : Int) = _; exact get16_nat (by omega)
  unfold loadSeen
  rw [if_pos hp, e0, e2]; rfl
theorem seen_udp {h : Hd} {P : List UInt8} (hp : h.p = 17) (hz : 8 ≤ P.length) : loadSeen h (S P) = ⟨⟨17, h.s, be16 P 0, h.d, be16 P 2⟩, 2, 0, false, h.l⟩ := by
  have e0 : get16 (L (S P)) 0 = be16 P 0 := by show get16 P ((0 : Nat) : Int) = _; exact get16_nat (by omega)
  have e2 : get16 (L (S P)) 2 = be16 P 2 := by show get16 P ((2 : Nat) : Int) = _; exact get16_nat (by omega)
  unfold loadSeen
  rw [if_neg (by omega), if_pos hp, e0, e2]
theorem seen_msg {h : Hd} {P : List UInt8} (hp : h.p = 1) (hz : 8 ≤ P.length) : loadSeen h (S P) = if qAsk (msgOf (S P)) = true then ⟨⟨1, h.s, be16 P 4, h.d, 0⟩, 2, 0, true, h.l⟩ else if qIs (msgOf (S P)) = true then ⟨⟨1, h.s, 0, h.d, be16 P 4⟩, 2, 0, false, h.l⟩ else ⟨⟨1, h.s, 0, h.d, 0⟩, 3, 0, false, h.l⟩ := by
  unfold loadSeen
  rw [if_neg (by omega), if_neg (by omega), msg_id hz]
/-- what is seen of a packet that was changed -/
def seenTo (x : Seen) (a b c d : Int) : Seen :=
  if x.k = 3 then ⟨⟨x.t.p, a, x.t.b, c, x.t.d⟩, x.k, x.f, x.q, x.l - 1⟩
  else if x.t.p ≠ 1 then ⟨⟨x.t.p, a, b, c, d⟩, x.k, x.f, x.q, x.l - 1⟩
  else if x.q = true then ⟨⟨x.t.p, a, b, c, x.t.d⟩, x.k, x.f, x.q, x.l - 1⟩
  else ⟨⟨x.t.p, a, x.t.b, c, d⟩, x.k, x.f, x.q, x.l - 1⟩
theorem load_change {h g : Hd} {P ips : List UInt8} {a b c d : Int} (hw : loadWhy h.p (S P) = 0) (hb : 0 ≤ b ∧ b ≤ 65535) (hd : 0 ≤ d ∧ d ≤ 65535) (gp : g.p = h.p) (gl : g.l = h.l - 1) (gs : g.s = a) (gd : g.d = c) :
    (loadNew (loadSeen h (S P)) P ips a b c d).length = P.length ∧ loadWhy h.p (S (loadNew (loadSeen h (S P)) P ips a b c d)) = 0 ∧ loadSeen g (S (loadNew (loadSeen h (S P)) P ips a b c d)) = seenTo (loadSeen h (S P)) a b c d := by
  rcases load_cases hw with ⟨hp, ht⟩ | ⟨hp, ht⟩ | ⟨hp, h8, ht⟩
  · have hz := tcpIs_len ht
    have el : loadNew (loadSeen h (S P)) P ips a b c d = flowNew P ips a b c d 16 := by
      rw [seen_tcp hp hz]; unfold loadNew; rw [if_pos rfl]
    rw [el]
    have ez : (flowNew P ips a b c d 16).length = P.length := flow_len (by omega) (by omega)
    have e12 : at_ (flowNew P ips a b c d 16) 12 = at_ P 12 := flow_at (by omega) (by omega) (by omega) (by omega)
    have e13 : at_ (flowNew P ips a b c d 16) 13 = at_ P 13 := flow_at (by omega) (by omega) (by omega) (by omega)
    obtain ⟨es, ed⟩ := flow_src (l := P) (ips := ips) (a := a) (c := c) (k := 16) (by omega) (by omega) hb hd
    refine ⟨ez, ?_, ?_⟩
    · unfold loadWhy; rw [if_pos hp, if_pos (tcpIs_of ht ez e12)]
    · rw [seen_tcp hp hz, seen_tcp (by rw [gp, hp]) (by rw [ez]; exact hz), es, ed, e13, gs, gd, gl]
      have hk : (if bits .and .u8 (at_ P 13) 23 = 2 then (1 : Int) else 2) ≠ 3 := by split <;> decide
      generalize (if bits .and .u8 (at_ P 13) 23 = 2 then (1 : Int) else 2) = k at *
      unfold seenTo
      rw [if_neg hk, if_pos (by dsimp only; decide)]
  · have hz := udpIs_len ht
    have el : loadNew (loadSeen h (S P)) P ips a b c d = flowNew P ips a b c d 6 := by
      rw [seen_udp hp hz]; unfold loadNew; rw [if_neg (by dsimp only; decide), if_pos rfl]
    rw [el]
    have ez : (flowNew P ips a b c d 6).length = P.length := flow_len (by omega) (by omega)
    have e4 : be16 (flowNew P ips a b c d 6) 4 = be16 P 4 := by unfold be16; rw [flow_at (by omega) (by omega) (by omega) (by omega), flow_at (by omega) (by omega) (by omega) (by omega)]
    obtain ⟨es, ed⟩ := flow_src (l := P) (ips := ips) (a := a) (c := c) (k := 6) (by omega) (by omega) hb hd
    refine ⟨ez, ?_, ?_⟩
    · unfold loadWhy; rw [if_neg (by omega), if_pos hp, if_pos (udpIs_of ht ez e4)]
    · rw [seen_udp hp hz, seen_udp (by rw [gp, hp]) (by rw [ez]; exact hz), es, ed, gs, gd, gl]
      unfold seenTo
      rw [if_neg (by dsimp only; decide), if_pos (by dsimp only; decide)]
  · have hi : ∀ Q : List UInt8, Q.length = P.length → (qIs (msgOf (S Q)) = true ∨ qErr (msgOf (S Q)) = true) → loadWhy h.p (S Q) = 0 := by
      intro Q hz hq
      unfold loadWhy
      rw [if_neg (by omega), if_neg (by omega), if_pos hp, if_neg (by rw [S_size]; omega), if_pos hq]
    by_cases ha : qAsk (msgOf (S P)) = true
    · have ex : loadSeen h (S P) = ⟨⟨1, h.s, be16 P 4, h.d, 0⟩, 2, 0, true, h.l⟩ := by rw [seen_msg hp h8, if_pos ha]
      have el : loadNew (loadSeen h (S P)) P ips a b c d = queryOf P b := by
        rw [ex]; unfold loadNew; rw [if_neg (by dsimp only; decide), if_neg (by dsimp only; decide), if_neg (by dsimp only; decide), if_pos rfl]
      rw [el]
      have ez := query_len (id := b) h8
      obtain ⟨q1, q2, q3⟩ := asks_of (query_at (id := b) h8 (i := 0) (by omega)) (query_at (id := b) h8 (i := 1) (by omega))
      refine ⟨ez, hi _ ez (by rw [q2, q3]; exact ht), ?_⟩
      rw [ex, seen_msg (by rw [gp, hp]) (by rw [ez]; exact h8), if_pos (by rw [q1]; exact ha), query_id h8 hb, gs, gd, gl]
      unfold seenTo
      rw [if_neg (by dsimp only; decide), if_neg (by dsimp only; decide), if_pos rfl]
    · by_cases hq : qIs (msgOf (S P)) = true
      · have ex : loadSeen h (S P) = ⟨⟨1, h.s, 0, h.d, be16 P 4⟩, 2, 0, false, h.l⟩ := by rw [seen_msg hp h8, if_neg ha, if_pos hq]
        have el : loadNew (loadSeen h (S P)) P ips a b c d = queryOf P d := by
          rw [ex]; unfold loadNew; rw [if_neg (by dsimp only; decide), if_neg (by dsimp only; decide), if_neg (by dsimp only; decide), if_neg (by dsimp only; decide)]
        rw [el]
        have ez := query_len (id := d) h8
        obtain ⟨q1, q2, q3⟩ := asks_of (query_at (id := d) h8 (i := 0) (by omega)) (query_at (id := d) h8 (i := 1) (by omega))
        refine ⟨ez, hi _ ez (by rw [q2, q3]; exact ht), ?_⟩
        rw [ex, seen_msg (by rw [gp, hp]) (by rw [ez]; exact h8), if_neg (by rw [q1]; exact ha), if_pos (by rw [q2]; exact hq), query_id h8 hd, gs, gd, gl]
        unfold seenTo
        rw [if_neg (by dsimp only; decide), if_neg (by dsimp only; decide), if_neg (by dsimp only; decide)]
      · have ex : loadSeen h (S P) = ⟨⟨1, h.s, 0, h.d, 0⟩, 3, 0, false, h.l⟩ := by rw [seen_msg hp h8, if_neg ha, if_neg hq]
        have el : loadNew (loadSeen h (S P)) P ips a b c d = P := by
          rw [ex]; unfold loadNew; rw [if_neg (by dsimp only; decide), if_neg (by dsimp only; decide), if_pos rfl]
        rw [el]
        refine ⟨rfl, hw, ?_⟩
        rw [ex, seen_msg (by rw [gp, hp]) h8, if_neg ha, if_neg hq, gs, gd, gl]
        unfold seenTo
        rw [if_pos rfl]

/-! ### packets -/
theorem seen_whole {H P : List UInt8} (R : List UInt8) (w : Whole H P) :
    seenWhy (S (H ++ P ++ R)) = loadWhy (at_ H 9) (S P) ∧ (loadWhy (at_ H 9) (S P) = 0 → seenOf (S (H ++ P ++ R)) = loadSeen (hdL H) (S P)) ∧
    (∀ a b c d, rwNew (S (H ++ P ++ R)) a b c d = headNew H a c ++ loadNew (seenOf (S (H ++ P ++ R))) P ((H.drop 12).take 8) a b c d) := by
  obtain ⟨e1, e2, e3⟩ := whole_to R w
  have hy : seenWhy (S (H ++ P ++ R)) = loadWhy (at_ H 9) (S P) := by
    unfold seenWhy; rw [if_pos e1, e2, e3]; rfl
  refine ⟨hy, ?_, ?_⟩
  · intro h
    unfold seenOf
    rw [if_pos (by rw [hy]; exact h), e2, e3]
  · intro a b c d
    have h20 := w.h20
    have eo : ipOwn (L (S (H ++ P ++ R))) = H.length := by rw [L_S, List.append_assoc, own_app (by omega), w.own]
    have et : (L (S (H ++ P ++ R))).take (ipOwn (L (S (H ++ P ++ R)))).toNat = H := by rw [eo, L_S, Int.toNat_natCast, List.append_assoc, List.take_left]
    have ei : ((L (S (H ++ P ++ R))).drop 12).take 8 = (H.drop 12).take 8 := by
      rw [L_S, List.append_assoc, List.drop_append_of_le_length (by omega), List.take_append_of_le_length (by simp; omega)]
    unfold rwNew
    rw [et, ei, e3, L_S]
/-- a packet that may be changed, and what it is then -/
theorem change {H P : List UInt8} {a b c d : Int} (w : Whole H P) (hw : loadWhy (at_ H 9) (S P) = 0) (h8 : 1 ≤ at_ H 8) (ha : 0 ≤ a ∧ a ≤ 4294967295) (hb : 0 ≤ b ∧ b ≤ 65535) (hc : 0 ≤ c ∧ c ≤ 4294967295) (hd : 0 ≤ d ∧ d ≤ 65535) :
    Whole (headNew H a c) (loadNew (loadSeen (hdL H) (S P)) P ((H.drop 12).take 8) a b c d) ∧ (loadNew (loadSeen (hdL H) (S P)) P ((H.drop 12).take 8) a b c d).length = P.length ∧
    at_ (headNew H a c) 9 = at_ H 9 ∧ at_ (headNew H a c) 8 = at_ H 8 - 1 ∧ loadWhy (at_ H 9) (S (loadNew (loadSeen (hdL H) (S P)) P ((H.drop 12).take 8) a b c d)) = 0 ∧
    loadSeen (hdL (headNew H a c)) (S (loadNew (loadSeen (hdL H) (S P)) P ((H.drop 12).take 8) a b c d)) = seenTo (loadSeen (hdL H) (S P)) a b c d := by
  obtain ⟨_, w8, w9, w12, w16⟩ := head_whole (Q := P) w ha hc h8 rfl
  obtain ⟨c1, c2, c3⟩ := load_change (h := hdL H) (g := hdL (headNew H a c)) (P := P) (ips := (H.drop 12).take 8) (a := a) (c := c) hw hb hd w9 w8 w12 w16
  exact ⟨(head_whole w ha hc h8 c1).1, c1, w9, w8, c2, c3⟩
end Go.Proofs.YtilfcikhipadpaaGreatDoor
end
