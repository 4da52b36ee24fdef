/- Several texts of this claim, one behind the other. -/
import Derived.Test.YtpidgmamollmgaaGreatDoorMRewriteTell25
import Derived.Test.YtpidgmamollmgaaGreatDoorMRewriteTell27
import Derived.Test.YtpidgmamollmgaaGreatDoorMRewriteTell30
import Derived.Test.YtpidgmamollmgaaGreatDoorMRewriteTell7
import Derived.Test.YtpidgmamollmgaaGreatDoorMRewriteTell9
import Derived.Test.YtpidgmamollmgaaGreatDoorMRewriteTell8

section
/- The chapter's examples of rewrite. -/
set_option linter.unusedVariables false
set_option linter.unusedSimpArgs false
namespace Go.Proofs.YtpidgmamollmgaaGreatDoor
open Go.RowKit Go.Maps
attribute [local go_sem] Oper.semAt_some

theorem seen_eq {x : Seen} {p a b c d k f l : Int} {q : Bool} (h : x.t.p = p ∧ x.t.a = a ∧ x.t.b = b ∧ x.t.c = c ∧ x.t.d = d ∧ x.k = k ∧ x.f = f ∧ x.q = q ∧ x.l = l) : x = ⟨⟨p, a, b, c, d⟩, k, f, q, l⟩ := by
  obtain ⟨⟨x0, x1, x2, x3, x4⟩, x5, x6, x7, x8⟩ := x
  simp only at h
  obtain ⟨rfl, rfl, rfl, rfl, rfl, rfl, rfl, rfl, rfl⟩ := h
  rfl
theorem ex_load1 (w : World) : Calls Tryz.prog 28 #[.agg #[.int .u8 17, .int .u32 167772161, .int .u16 5, .int .u32 16909060, .int .u16 53], .int .u8 0, .string { data := #[113] }] w (Ret (.string { data := #[0, 5, 0, 53, 0, 9, 128, 155, 113] }) w) := by
  have c1 := fun W => r5_Put 5 53 0 0 { data := #[113] } W (by decide) (by decide) (by decide) (by decide)
  rw [show S (udpWords 5 53 ((8 + ({ data := #[113] } : ByteArray).size) % 65536) 0 ++ L { data := #[113] }) = ({ data := #[0, 5, 0, 53, 0, 9, 0, 0, 113] } : ByteArray) from by decide +kernel] at c1
  have c2 := fun W => r5_Seal 167772161 16909060 { data := #[0, 5, 0, 53, 0, 9, 0, 0, 113] } W (by decide) (by decide) (by decide)
  rw [show S (udpSeal 167772161 16909060 (L { data := #[0, 5, 0, 53, 0, 9, 0, 0, 113] })) = ({ data := #[0, 5, 0, 53, 0, 9, 128, 155, 113] } : ByteArray) from by decide +kernel] at c2
  exact load_udp 167772161 5 16909060 53 0 { data := #[113] } { data := #[0, 5, 0, 53, 0, 9, 0, 0, 113] } { data := #[0, 5, 0, 53, 0, 9, 128, 155, 113] } w c1 c2
theorem ex_load3 (w : World) : Calls Tryz.prog 28 #[.agg #[.int .u8 1, .int .u32 167772161, .int .u16 7, .int .u32 16909060, .int .u16 0], .int .u8 0, .string { data := #[113] }] w (Ret (.string { data := #[8, 0, 134, 247, 0, 7, 0, 1, 113] }) w) := by
  have c1 := fun W => r7_WithID ⟨8, 0, 0, { data := #[0, 0, 0, 1] }, { data := #[113] }⟩ 7 W (by refine ⟨?_, ?_, ?_, ?_, ?_⟩ <;> decide) (by decide)
  rw [show (msgID ⟨8, 0, 0, { data := #[0, 0, 0, 1] }, { data := #[113] }⟩ 7).r = ({ data := #[0, 7, 0, 1] } : ByteArray) from by decide +kernel] at c1
  have c3 := fun W => r7_Put_yes ⟨8, 0, 0, { data := #[0, 7, 0, 1] }, { data := #[113] }⟩ W (by refine ⟨?_, ?_, ?_, ?_, ?_⟩ <;> decide) (by decide)
  rw [show S (msgPut ⟨8, 0, 0, { data := #[0, 7, 0, 1] }, { data := #[113] }⟩) = ({ data := #[8, 0, 0, 0, 0, 7, 0, 1, 113] } : ByteArray) from by decide +kernel] at c3
  have c4 := fun W => r7_Seal { data := #[8, 0, 0, 0, 0, 7, 0, 1, 113] } W (by decide)
  rw [show S (icmpSeal (L { data := #[8, 0, 0, 0, 0, 7, 0, 1, 113] })) = ({ data := #[8, 0, 134, 247, 0, 7, 0, 1, 113] } : ByteArray) from by decide +kernel] at c4
  exact load_ask 167772161 7 16909060 0 { data := #[113] } { data := #[8, 0, 0, 0, 0, 7, 0, 1, 113] } { data := #[8, 0, 134, 247, 0, 7, 0, 1, 113] } 8 0 0 0 0 0 { data := #[0, 7, 0, 1] } { data := #[113] } { data := #[113] } { data := #[113] } w c1 c3 c4
theorem ex_load4 (w : World) : Calls Tryz.prog 28 #[.agg #[.int .u8 1, .int .u32 167772161, .int .u16 0, .int .u32 16909060, .int .u16 7], .int .u8 0, .string { data := #[113] }] w (Ret (.string { data := #[0, 0, 142, 247, 0, 7, 0, 1, 113] }) w) := by
  have c1 := fun W => r7_WithID ⟨8, 0, 0, { data := #[0, 0, 0, 1] }, { data := #[113] }⟩ 0 W (by refine ⟨?_, ?_, ?_, ?_, ?_⟩ <;> decide) (by decide)
  rw [show (msgID ⟨8, 0, 0, { data := #[0, 0, 0, 1] }, { data := #[113] }⟩ 0).r = ({ data := #[0, 0, 0, 1] } : ByteArray) from by decide +kernel] at c1
  have c2 := fun W => r7_WithID ⟨0, 0, 0, { data := #[0, 0, 0, 1] }, { data := #[113] }⟩ 7 W (by refine ⟨?_, ?_, ?_, ?_, ?_⟩ <;> decide) (by decide)
  rw [show (msgID ⟨0, 0, 0, { data := #[0, 0, 0, 1] }, { data := #[113] }⟩ 7).r = ({ data := #[0, 7, 0, 1] } : ByteArray) from by decide +kernel] at c2
  have c3 := fun W => r7_Put_yes ⟨0, 0, 0, { data := #[0, 7, 0, 1] }, { data := #[113] }⟩ W (by refine ⟨?_, ?_, ?_, ?_, ?_⟩ <;> decide) (by decide)
  rw [show S (msgPut ⟨0, 0, 0, { data := #[0, 7, 0, 1] }, { data := #[113] }⟩) = ({ data := #[0, 0, 0, 0, 0, 7, 0, 1, 113] } : ByteArray) from by decide +kernel] at c3
  have c4 := fun W => r7_Seal { data := #[0, 0, 0, 0, 0, 7, 0, 1, 113] } W (by decide)
  rw [show S (icmpSeal (L { data := #[0, 0, 0, 0, 0, 7, 0, 1, 113] })) = ({ data := #[0, 0, 142, 247, 0, 7, 0, 1, 113] } : ByteArray) from by decide +kernel] at c4
  exact load_told 167772161 16909060 7 0 { data := #[113] } { data := #[0, 0, 0, 0, 0, 7, 0, 1, 113] } { data := #[0, 0, 142, 247, 0, 7, 0, 1, 113] } 8 0 0 0 0 0 { data := #[0, 0, 0, 1] } { data := #[113] } { data := #[0, 7, 0, 1] } { data := #[113] } w (by decide) c1 c2 c3 c4
theorem ex_made1 (w : World) : Calls Tryz.prog 11 #[.agg #[.int .u8 17, .int .u32 167772161, .int .u16 5, .int .u32 16909060, .int .u16 53], .int .u8 0, .int .u8 64, .string { data := #[113] }] w (Ret (.string { data := #[69, 0, 0, 29, 0, 0, 0, 0, 64, 17, 108, 202, 10, 0, 0, 1, 1, 2, 3, 4, 0, 5, 0, 53, 0, 9, 128, 155, 113] }) w) := by
  have c2 := fun W => r4_Put 0 0 64 17 167772161 16909060 false { data := #[] } { data := #[0, 5, 0, 53, 0, 9, 128, 155, 113] } W (by refine ⟨?_, ?_, ?_, ?_, ?_, ?_, ?_⟩ <;> decide) (by decide)
  rw [show ipText (Hd.mk 0 0 false 64 17 167772161 16909060 { data := #[] }) { data := #[0, 5, 0, 53, 0, 9, 128, 155, 113] } = ({ data := #[69, 0, 0, 29, 0, 0, 0, 0, 64, 17, 108, 202, 10, 0, 0, 1, 1, 2, 3, 4, 0, 5, 0, 53, 0, 9, 128, 155, 113] } : ByteArray) from by decide +kernel, show ipErr (Hd.mk 0 0 false 64 17 167772161 16909060 { data := #[] }) { data := #[0, 5, 0, 53, 0, 9, 128, 155, 113] } = 0 from by decide +kernel] at c2
  exact made 17 167772161 5 16909060 53 0 64 { data := #[113] } { data := #[0, 5, 0, 53, 0, 9, 128, 155, 113] } { data := #[69, 0, 0, 29, 0, 0, 0, 0, 64, 17, 108, 202, 10, 0, 0, 1, 1, 2, 3, 4, 0, 5, 0, 53, 0, 9, 128, 155, 113] } w (fun W => ex_load1 W) c2
theorem ex_made2 (w : World) : Calls Tryz.prog 11 #[.agg #[.int .u8 17, .int .u32 167772161, .int .u16 5, .int .u32 16909060, .int .u16 53], .int .u8 0, .int .u8 1, .string { data := #[113] }] w (Ret (.string { data := #[69, 0, 0, 29, 0, 0, 0, 0, 1, 17, 171, 202, 10, 0, 0, 1, 1, 2, 3, 4, 0, 5, 0, 53, 0, 9, 128, 155, 113] }) w) := by
  have c2 := fun W => r4_Put 0 0 1 17 167772161 16909060 false { data := #[] } { data := #[0, 5, 0, 53, 0, 9, 128, 155, 113] } W (by refine ⟨?_, ?_, ?_, ?_, ?_, ?_, ?_⟩ <;> decide) (by decide)
  rw [show ipText (Hd.mk 0 0 false 1 17 167772161 16909060 { data := #[] }) { data := #[0, 5, 0, 53, 0, 9, 128, 155, 113] } = ({ data := #[69, 0, 0, 29, 0, 0, 0, 0, 1, 17, 171, 202, 10, 0, 0, 1, 1, 2, 3, 4, 0, 5, 0, 53, 0, 9, 128, 155, 113] } : ByteArray) from by decide +kernel, show ipErr (Hd.mk 0 0 false 1 17 167772161 16909060 { data := #[] }) { data := #[0, 5, 0, 53, 0, 9, 128, 155, 113] } = 0 from by decide +kernel] at c2
  exact made 17 167772161 5 16909060 53 0 1 { data := #[113] } { data := #[0, 5, 0, 53, 0, 9, 128, 155, 113] } { data := #[69, 0, 0, 29, 0, 0, 0, 0, 1, 17, 171, 202, 10, 0, 0, 1, 1, 2, 3, 4, 0, 5, 0, 53, 0, 9, 128, 155, 113] } w (fun W => ex_load1 W) c2
theorem ex_made3 (w : World) : Calls Tryz.prog 11 #[.agg #[.int .u8 1, .int .u32 167772161, .int .u16 7, .int .u32 16909060, .int .u16 0], .int .u8 0, .int .u8 64, .string { data := #[113] }] w (Ret (.string { data := #[69, 0, 0, 29, 0, 0, 0, 0, 64, 1, 108, 218, 10, 0, 0, 1, 1, 2, 3, 4, 8, 0, 134, 247, 0, 7, 0, 1, 113] }) w) := by
  have c2 := fun W => r4_Put 0 0 64 1 167772161 16909060 false { data := #[] } { data := #[8, 0, 134, 247, 0, 7, 0, 1, 113] } W (by refine ⟨?_, ?_, ?_, ?_, ?_, ?_, ?_⟩ <;> decide) (by decide)
  rw [show ipText (Hd.mk 0 0 false 64 1 167772161 16909060 { data := #[] }) { data := #[8, 0, 134, 247, 0, 7, 0, 1, 113] } = ({ data := #[69, 0, 0, 29, 0, 0, 0, 0, 64, 1, 108, 218, 10, 0, 0, 1, 1, 2, 3, 4, 8, 0, 134, 247, 0, 7, 0, 1, 113] } : ByteArray) from by decide +kernel, show ipErr (Hd.mk 0 0 false 64 1 167772161 16909060 { data := #[] }) { data := #[8, 0, 134, 247, 0, 7, 0, 1, 113] } = 0 from by decide +kernel] at c2
  exact made 1 167772161 7 16909060 0 0 64 { data := #[113] } { data := #[8, 0, 134, 247, 0, 7, 0, 1, 113] } { data := #[69, 0, 0, 29, 0, 0, 0, 0, 64, 1, 108, 218, 10, 0, 0, 1, 1, 2, 3, 4, 8, 0, 134, 247, 0, 7, 0, 1, 113] } w (fun W => ex_load3 W) c2
theorem ex_made4 (w : World) : Calls Tryz.prog 11 #[.agg #[.int .u8 1, .int .u32 167772161, .int .u16 0, .int .u32 16909060, .int .u16 7], .int .u8 0, .int .u8 64, .string { data := #[113] }] w (Ret (.string { data := #[69, 0, 0, 29, 0, 0, 0, 0, 64, 1, 108, 218, 10, 0, 0, 1, 1, 2, 3, 4, 0, 0, 142, 247, 0, 7, 0, 1, 113] }) w) := by
  have c2 := fun W => r4_Put 0 0 64 1 167772161 16909060 false { data := #[] } { data := #[0, 0, 142, 247, 0, 7, 0, 1, 113] } W (by refine ⟨?_, ?_, ?_, ?_, ?_, ?_, ?_⟩ <;> decide) (by decide)
  rw [show ipText (Hd.mk 0 0 false 64 1 167772161 16909060 { data := #[] }) { data := #[0, 0, 142, 247, 0, 7, 0, 1, 113] } = ({ data := #[69, 0, 0, 29, 0, 0, 0, 0, 64, 1, 108, 218, 10, 0, 0, 1, 1, 2, 3, 4, 0, 0, 142, 247, 0, 7, 0, 1, 113] } : ByteArray) from by decide +kernel, show ipErr (Hd.mk 0 0 false 64 1 167772161 16909060 { data := #[] }) { data := #[0, 0, 142, 247, 0, 7, 0, 1, 113] } = 0 from by decide +kernel] at c2
  exact made 1 167772161 0 16909060 7 0 64 { data := #[113] } { data := #[0, 0, 142, 247, 0, 7, 0, 1, 113] } { data := #[69, 0, 0, 29, 0, 0, 0, 0, 64, 1, 108, 218, 10, 0, 0, 1, 1, 2, 3, 4, 0, 0, 142, 247, 0, 7, 0, 1, 113] } w (fun W => ex_load4 W) c2
theorem ex_apply1 (w : World) (K : Kinds w) : Calls Tryz.prog 6 #[.string { data := #[69, 0, 0, 29, 0, 0, 0, 0, 64, 17, 108, 202, 10, 0, 0, 1, 1, 2, 3, 4, 0, 5, 0, 53, 0, 9, 128, 155, 113] }, .agg #[.int .u32 84281096, .int .u16 9000, .int .u32 16909060, .int .u16 53]] w (Ret (.tuple #[.string { data := #[69, 0, 0, 29, 0, 0, 0, 0, 63, 17, 107, 189, 5, 6, 7, 8, 1, 2, 3, 4, 35, 40, 0, 53, 0, 9, 91, 107, 113] }, .int .i64 0]) w) := by
  have c := rw_Apply 84281096 9000 16909060 53 { data := #[69, 0, 0, 29, 0, 0, 0, 0, 64, 17, 108, 202, 10, 0, 0, 1, 1, 2, 3, 4, 0, 5, 0, 53, 0, 9, 128, 155, 113] } w K (by decide) (by decide) (by decide) (by decide) (by decide)
  rw [show rwOut { data := #[69, 0, 0, 29, 0, 0, 0, 0, 64, 17, 108, 202, 10, 0, 0, 1, 1, 2, 3, 4, 0, 5, 0, 53, 0, 9, 128, 155, 113] } 84281096 9000 16909060 53 = ({ data := #[69, 0, 0, 29, 0, 0, 0, 0, 63, 17, 107, 189, 5, 6, 7, 8, 1, 2, 3, 4, 35, 40, 0, 53, 0, 9, 91, 107, 113] } : ByteArray) from by decide +kernel, show rwWhy { data := #[69, 0, 0, 29, 0, 0, 0, 0, 64, 17, 108, 202, 10, 0, 0, 1, 1, 2, 3, 4, 0, 5, 0, 53, 0, 9, 128, 155, 113] } = 0 from by decide +kernel] at c
  exact c
theorem ex_apply2 (w : World) (K : Kinds w) : Calls Tryz.prog 6 #[.string { data := #[69, 0, 0, 29, 0, 0, 0, 0, 1, 17, 171, 202, 10, 0, 0, 1, 1, 2, 3, 4, 0, 5, 0, 53, 0, 9, 128, 155, 113] }, .agg #[.int .u32 84281096, .int .u16 9000, .int .u32 16909060, .int .u16 53]] w (Ret (.tuple #[.string { data := #[] }, .int .i64 8]) w) := by
  have c := rw_Apply 84281096 9000 16909060 53 { data := #[69, 0, 0, 29, 0, 0, 0, 0, 1, 17, 171, 202, 10, 0, 0, 1, 1, 2, 3, 4, 0, 5, 0, 53, 0, 9, 128, 155, 113] } w K (by decide) (by decide) (by decide) (by decide) (by decide)
  rw [show rwOut { data := #[69, 0, 0, 29, 0, 0, 0, 0, 1, 17, 171, 202, 10, 0, 0, 1, 1, 2, 3, 4, 0, 5, 0, 53, 0, 9, 128, 155, 113] } 84281096 9000 16909060 53 = ({ data := #[] } : ByteArray) from by decide +kernel, show rwWhy { data := #[69, 0, 0, 29, 0, 0, 0, 0, 1, 17, 171, 202, 10, 0, 0, 1, 1, 2, 3, 4, 0, 5, 0, 53, 0, 9, 128, 155, 113] } = 8 from by decide +kernel] at c
  exact c
theorem ex_apply0 (w : World) (K : Kinds w) : Calls Tryz.prog 6 #[.string { data := #[97, 98, 99] }, .agg #[.int .u32 84281096, .int .u16 9000, .int .u32 16909060, .int .u16 53]] w (Ret (.tuple #[.string { data := #[] }, .int .i64 1]) w) := by
  have c := rw_Apply 84281096 9000 16909060 53 { data := #[97, 98, 99] } w K (by decide) (by decide) (by decide) (by decide) (by decide)
  rw [show rwOut { data := #[97, 98, 99] } 84281096 9000 16909060 53 = ({ data := #[] } : ByteArray) from by decide +kernel, show rwWhy { data := #[97, 98, 99] } = 1 from by decide +kernel] at c
  exact c
theorem ex_apply3 (w : World) (K : Kinds w) : Calls Tryz.prog 6 #[.string { data := #[69, 0, 0, 29, 0, 0, 0, 0, 64, 1, 108, 218, 10, 0, 0, 1, 1, 2, 3, 4, 8, 0, 134, 247, 0, 7, 0, 1, 113] }, .agg #[.int .u32 84281096, .int .u16 9000, .int .u32 16909060, .int .u16 53]] w (Ret (.tuple #[.string { data := #[69, 0, 0, 29, 0, 0, 0, 0, 63, 1, 107, 205, 5, 6, 7, 8, 1, 2, 3, 4, 8, 0, 99, 214, 35, 40, 0, 1, 113] }, .int .i64 0]) w) := by
  have c := rw_Apply 84281096 9000 16909060 53 { data := #[69, 0, 0, 29, 0, 0, 0, 0, 64, 1, 108, 218, 10, 0, 0, 1, 1, 2, 3, 4, 8, 0, 134, 247, 0, 7, 0, 1, 113] } w K (by decide) (by decide) (by decide) (by decide) (by decide)
  rw [show rwOut { data := #[69, 0, 0, 29, 0, 0, 0, 0, 64, 1, 108, 218, 10, 0, 0, 1, 1, 2, 3, 4, 8, 0, 134, 247, 0, 7, 0, 1, 113] } 84281096 9000 16909060 53 = ({ data := #[69, 0, 0, 29, 0, 0, 0, 0, 63, 1, 107, 205, 5, 6, 7, 8, 1, 2, 3, 4, 8, 0, 99, 214, 35, 40, 0, 1, 113] } : ByteArray) from by decide +kernel, show rwWhy { data := #[69, 0, 0, 29, 0, 0, 0, 0, 64, 1, 108, 218, 10, 0, 0, 1, 1, 2, 3, 4, 8, 0, 134, 247, 0, 7, 0, 1, 113] } = 0 from by decide +kernel] at c
  exact c
theorem ex_apply4 (w : World) (K : Kinds w) : Calls Tryz.prog 6 #[.string { data := #[69, 0, 0, 29, 0, 0, 0, 0, 64, 1, 108, 218, 10, 0, 0, 1, 1, 2, 3, 4, 0, 0, 142, 247, 0, 7, 0, 1, 113] }, .agg #[.int .u32 84281096, .int .u16 9000, .int .u32 16909060, .int .u16 53]] w (Ret (.tuple #[.string { data := #[69, 0, 0, 29, 0, 0, 0, 0, 63, 1, 107, 205, 5, 6, 7, 8, 1, 2, 3, 4, 0, 0, 142, 201, 0, 53, 0, 1, 113] }, .int .i64 0]) w) := by
  have c := rw_Apply 84281096 9000 16909060 53 { data := #[69, 0, 0, 29, 0, 0, 0, 0, 64, 1, 108, 218, 10, 0, 0, 1, 1, 2, 3, 4, 0, 0, 142, 247, 0, 7, 0, 1, 113] } w K (by decide) (by decide) (by decide) (by decide) (by decide)
  rw [show rwOut { data := #[69, 0, 0, 29, 0, 0, 0, 0, 64, 1, 108, 218, 10, 0, 0, 1, 1, 2, 3, 4, 0, 0, 142, 247, 0, 7, 0, 1, 113] } 84281096 9000 16909060 53 = ({ data := #[69, 0, 0, 29, 0, 0, 0, 0, 63, 1, 107, 205, 5, 6, 7, 8, 1, 2, 3, 4, 0, 0, 142, 201, 0, 53, 0, 1, 113] } : ByteArray) from by decide +kernel, show rwWhy { data := #[69, 0, 0, 29, 0, 0, 0, 0, 64, 1, 108, 218, 10, 0, 0, 1, 1, 2, 3, 4, 0, 0, 142, 247, 0, 7, 0, 1, 113] } = 0 from by decide +kernel] at c
  exact c
theorem ex_of1 (w : World) (K : Kinds w) : Calls Tryz.prog 12 #[.string { data := #[69, 0, 0, 29, 0, 0, 0, 0, 63, 17, 107, 189, 5, 6, 7, 8, 1, 2, 3, 4, 35, 40, 0, 53, 0, 9, 91, 107, 113] }] w (Ret (.tuple #[.agg #[.int .u8 17, .int .u32 84281096, .int .u16 9000, .int .u32 16909060, .int .u16 53, .int .i64 2, .int .u8 0, .bool false, .int .u8 63], .int .i64 0]) w) := by
  have c := tu_Of { data := #[69, 0, 0, 29, 0, 0, 0, 0, 63, 17, 107, 189, 5, 6, 7, 8, 1, 2, 3, 4, 35, 40, 0, 53, 0, 9, 91, 107, 113] } w K (by decide)
  rw [seen_eq (x := seenOf { data := #[69, 0, 0, 29, 0, 0, 0, 0, 63, 17, 107, 189, 5, 6, 7, 8, 1, 2, 3, 4, 35, 40, 0, 53, 0, 9, 91, 107, 113] }) (p := 17) (a := 84281096) (b := 9000) (c := 16909060) (d := 53) (k := 2) (f := 0) (q := false) (l := 63) (by decide +kernel), show seenWhy { data := #[69, 0, 0, 29, 0, 0, 0, 0, 63, 17, 107, 189, 5, 6, 7, 8, 1, 2, 3, 4, 35, 40, 0, 53, 0, 9, 91, 107, 113] } = 0 from by decide +kernel] at c
  exact c
theorem ex_of3 (w : World) (K : Kinds w) : Calls Tryz.prog 12 #[.string { data := #[69, 0, 0, 29, 0, 0, 0, 0, 63, 1, 107, 205, 5, 6, 7, 8, 1, 2, 3, 4, 8, 0, 99, 214, 35, 40, 0, 1, 113] }] w (Ret (.tuple #[.agg #[.int .u8 1, .int .u32 84281096, .int .u16 9000, .int .u32 16909060, .int .u16 0, .int .i64 2, .int .u8 0, .bool true, .int .u8 63], .int .i64 0]) w) := by
  have c := tu_Of { data := #[69, 0, 0, 29, 0, 0, 0, 0, 63, 1, 107, 205, 5, 6, 7, 8, 1, 2, 3, 4, 8, 0, 99, 214, 35, 40, 0, 1, 113] } w K (by decide)
  rw [seen_eq (x := seenOf { data := #[69, 0, 0, 29, 0, 0, 0, 0, 63, 1, 107, 205, 5, 6, 7, 8, 1, 2, 3, 4, 8, 0, 99, 214, 35, 40, 0, 1, 113] }) (p := 1) (a := 84281096) (b := 9000) (c := 16909060) (d := 0) (k := 2) (f := 0) (q := true) (l := 63) (by decide +kernel), show seenWhy { data := #[69, 0, 0, 29, 0, 0, 0, 0, 63, 1, 107, 205, 5, 6, 7, 8, 1, 2, 3, 4, 8, 0, 99, 214, 35, 40, 0, 1, 113] } = 0 from by decide +kernel] at c
  exact c
theorem ex_of4 (w : World) (K : Kinds w) : Calls Tryz.prog 12 #[.string { data := #[69, 0, 0, 29, 0, 0, 0, 0, 63, 1, 107, 205, 5, 6, 7, 8, 1, 2, 3, 4, 0, 0, 142, 201, 0, 53, 0, 1, 113] }] w (Ret (.tuple #[.agg #[.int .u8 1, .int .u32 84281096, .int .u16 0, .int .u32 16909060, .int .u16 53, .int .i64 2, .int .u8 0, .bool false, .int .u8 63], .int .i64 0]) w) := by
  have c := tu_Of { data := #[69, 0, 0, 29, 0, 0, 0, 0, 63, 1, 107, 205, 5, 6, 7, 8, 1, 2, 3, 4, 0, 0, 142, 201, 0, 53, 0, 1, 113] } w K (by decide)
  rw [seen_eq (x := seenOf { data := #[69, 0, 0, 29, 0, 0, 0, 0, 63, 1, 107, 205, 5, 6, 7, 8, 1, 2, 3, 4, 0, 0, 142, 201, 0, 53, 0, 1, 113] }) (p := 1) (a := 84281096) (b := 0) (c := 16909060) (d := 53) (k := 2) (f := 0) (q := false) (l := 63) (by decide +kernel), show seenWhy { data := #[69, 0, 0, 29, 0, 0, 0, 0, 63, 1, 107, 205, 5, 6, 7, 8, 1, 2, 3, 4, 0, 0, 142, 201, 0, 53, 0, 1, 113] } = 0 from by decide +kernel] at c
  exact c

set_option maxRecDepth 100000 in
set_option maxHeartbeats 8000000 in
theorem turned (w : World) (hTb : Tabs w) : Calls Tryz.prog 5 #[] w (Ret (.bool true) w) := by
  have HK := hide hTb.1; have HTB := hide hTb
  have M1 := hide ex_made1; have M2 := hide ex_made2; have M3 := hide ex_made3; have M4 := hide ex_made4
  have P1 := hide ex_apply1; have P2 := hide ex_apply2; have P0 := hide ex_apply0; have P3 := hide ex_apply3; have P4 := hide ex_apply4
  have O1 := hide ex_of1; have O3 := hide ex_of3; have O4 := hide ex_of4
  have TX := hide tuple_text
  clear hTb
  go_enter Tryz.func5, Tryz.ntmps5
  have hT : Cells ((((w.alloc (.cells #[.int .u32 167772161, .int .u16 5] 26)).alloc (.cells #[.int .u32 16909060, .int .u16 53] 26)).alloc (.cells #[.int .u32 84281096, .int .u16 9000, .int .u32 16909060, .int .u16 53] 28)).alloc (.cells #[.int .u8 17, .int .u32 167772161, .int .u16 5, .int .u32 16909060, .int .u16 53] 36)) (w.heap.size + 1 + 1 + 1) #[.int .u8 17, .int .u32 167772161, .int .u16 5, .int .u32 16909060, .int .u16 53] 36 := by
    have := Cells.new (((w.alloc (.cells #[.int .u32 167772161, .int .u16 5] 26)).alloc (.cells #[.int .u32 16909060, .int .u16 53] 26)).alloc (.cells #[.int .u32 84281096, .int .u16 9000, .int .u32 16909060, .int .u16 53] 28)) #[.int .u8 17, .int .u32 167772161, .int .u16 5, .int .u32 16909060, .int .u16 53] 36
    rw [show (((w.alloc (.cells #[.int .u32 167772161, .int .u16 5] 26)).alloc (.cells #[.int .u32 16909060, .int .u16 53] 26)).alloc (.cells #[.int .u32 84281096, .int .u16 9000, .int .u32 16909060, .int .u16 53] 28)).heap.size = w.heap.size + 1 + 1 + 1 from by simp] at this
    exact this
  have hC : Cells ((((w.alloc (.cells #[.int .u32 167772161, .int .u16 5] 26)).alloc (.cells #[.int .u32 16909060, .int .u16 53] 26)).alloc (.cells #[.int .u32 84281096, .int .u16 9000, .int .u32 16909060, .int .u16 53] 28)).alloc (.cells #[.int .u8 17, .int .u32 167772161, .int .u16 5, .int .u32 16909060, .int .u16 53] 36)) (w.heap.size + 1 + 1) #[.int .u32 84281096, .int .u16 9000, .int .u32 16909060, .int .u16 53] 28 := by
    have := Cells.alloc (Cells.new ((w.alloc (.cells #[.int .u32 167772161, .int .u16 5] 26)).alloc (.cells #[.int .u32 16909060, .int .u16 53] 26)) #[.int .u32 84281096, .int .u16 9000, .int .u32 16909060, .int .u16 53] 28) (.cells #[.int .u8 17, .int .u32 167772161, .int .u16 5, .int .u32 16909060, .int .u16 53] 36)
    rw [show ((w.alloc (.cells #[.int .u32 167772161, .int .u16 5] 26)).alloc (.cells #[.int .u32 16909060, .int .u16 53] 26)).heap.size = w.heap.size + 1 + 1 from by simp] at this
    exact this
  have bZ : Below w.heap.size w ((((w.alloc (.cells #[.int .u32 167772161, .int .u16 5] 26)).alloc (.cells #[.int .u32 16909060, .int .u16 53] 26)).alloc (.cells #[.int .u32 84281096, .int .u16 9000, .int .u32 16909060, .int .u16 53] 28)).alloc (.cells #[.int .u8 17, .int .u32 167772161, .int .u16 5, .int .u32 16909060, .int .u16 53] 36)) := bstep (bstep (bstep (fresh_below _ _) (fresh_below _ _)) (fresh_below _ _)) (fresh_below _ _)
  have HT0 := hide hT; have HC0 := hide hC; have HZ := hide bZ
  clear hT hC bZ
  go_wp2_with fail
  generalize ((((w.alloc (.cells #[.int .u32 167772161, .int .u16 5] 26)).alloc (.cells #[.int .u32 16909060, .int .u16 53] 26)).alloc (.cells #[.int .u32 84281096, .int .u16 9000, .int .u32 16909060, .int .u16 53] 28)).alloc (.cells #[.int .u8 17, .int .u32 167772161, .int .u16 5, .int .u32 16909060, .int .u16 53] 36)) = wZ at *
  have hT := HT0.out; have hC := HC0.out; have bZ := HZ.out
  clear HT0 HC0 HZ
  have SK := hide (fun (zX zY : World) (zh : (Below w.heap.size w zX ∧ Cells zX (w.heap.size + 1 + 1 + 1) #[.int .u8 17, .int .u32 167772161, .int .u16 5, .int .u32 16909060, .int .u16 53] 36 ∧ zX.cell? ⟨w.heap.size + 1 + 1 + 1, 0, none⟩ = some (.int .u8 17) ∧ zX.cell? ⟨w.heap.size + 1 + 1 + 1, 1, none⟩ = some (.int .u32 167772161) ∧ zX.cell? ⟨w.heap.size + 1 + 1 + 1, 2, none⟩ = some (.int .u16 5) ∧ zX.cell? ⟨w.heap.size + 1 + 1 + 1, 3, none⟩ = some (.int .u32 16909060) ∧ zX.cell? ⟨w.heap.size + 1 + 1 + 1, 4, none⟩ = some (.int .u16 53) ∧ Cells zX (w.heap.size + 1 + 1) #[.int .u32 84281096, .int .u16 9000, .int .u32 16909060, .int .u16 53] 28 ∧ zX.cell? ⟨w.heap.size + 1 + 1, 0, none⟩ = some (.int .u32 84281096) ∧ zX.cell? ⟨w.heap.size + 1 + 1, 1, none⟩ = some (.int .u16 9000) ∧ zX.cell? ⟨w.heap.size + 1 + 1, 2, none⟩ = some (.int .u32 16909060) ∧ zX.cell? ⟨w.heap.size + 1 + 1, 3, none⟩ = some (.int .u16 53) ∧ True)) (zb : Below zX.heap.size zX zY) => (show (Below w.heap.size w zY ∧ Cells zY (w.heap.size + 1 + 1 + 1) #[.int .u8 17, .int .u32 167772161, .int .u16 5, .int .u32 16909060, .int .u16 53] 36 ∧ zY.cell? ⟨w.heap.size + 1 + 1 + 1, 0, none⟩ = some (.int .u8 17) ∧ zY.cell? ⟨w.heap.size + 1 + 1 + 1, 1, none⟩ = some (.int .u32 167772161) ∧ zY.cell? ⟨w.heap.size + 1 + 1 + 1, 2, none⟩ = some (.int .u16 5) ∧ zY.cell? ⟨w.heap.size + 1 + 1 + 1, 3, none⟩ = some (.int .u32 16909060) ∧ zY.cell? ⟨w.heap.size + 1 + 1 + 1, 4, none⟩ = some (.int .u16 53) ∧ Cells zY (w.heap.size + 1 + 1) #[.int .u32 84281096, .int .u16 9000, .int .u32 16909060, .int .u16 53] 28 ∧ zY.cell? ⟨w.heap.size + 1 + 1, 0, none⟩ = some (.int .u32 84281096) ∧ zY.cell? ⟨w.heap.size + 1 + 1, 1, none⟩ = some (.int .u16 9000) ∧ zY.cell? ⟨w.heap.size + 1 + 1, 2, none⟩ = some (.int .u32 16909060) ∧ zY.cell? ⟨w.heap.size + 1 + 1, 3, none⟩ = some (.int .u16 53) ∧ True) from ⟨bstep zh.1 zb, Cells.below zb zh.2.1, cellAt zb zh.2.2.1, cellAt zb zh.2.2.2.1, cellAt zb zh.2.2.2.2.1, cellAt zb zh.2.2.2.2.2.1, cellAt zb zh.2.2.2.2.2.2.1, Cells.below zb zh.2.2.2.2.2.2.2.1, cellAt zb zh.2.2.2.2.2.2.2.2.1, cellAt zb zh.2.2.2.2.2.2.2.2.2.1, cellAt zb zh.2.2.2.2.2.2.2.2.2.2.1, cellAt zb zh.2.2.2.2.2.2.2.2.2.2.2.1, trivial⟩))
  have FS := hide (fun (zX : World) (zh : (Below w.heap.size w zX ∧ Cells zX (w.heap.size + 1 + 1 + 1) #[.int .u8 17, .int .u32 167772161, .int .u16 5, .int .u32 16909060, .int .u16 53] 36 ∧ zX.cell? ⟨w.heap.size + 1 + 1 + 1, 0, none⟩ = some (.int .u8 17) ∧ zX.cell? ⟨w.heap.size + 1 + 1 + 1, 1, none⟩ = some (.int .u32 167772161) ∧ zX.cell? ⟨w.heap.size + 1 + 1 + 1, 2, none⟩ = some (.int .u16 5) ∧ zX.cell? ⟨w.heap.size + 1 + 1 + 1, 3, none⟩ = some (.int .u32 16909060) ∧ zX.cell? ⟨w.heap.size + 1 + 1 + 1, 4, none⟩ = some (.int .u16 53) ∧ Cells zX (w.heap.size + 1 + 1) #[.int .u32 84281096, .int .u16 9000, .int .u32 16909060, .int .u16 53] 28 ∧ zX.cell? ⟨w.heap.size + 1 + 1, 0, none⟩ = some (.int .u32 84281096) ∧ zX.cell? ⟨w.heap.size + 1 + 1, 1, none⟩ = some (.int .u16 9000) ∧ zX.cell? ⟨w.heap.size + 1 + 1, 2, none⟩ = some (.int .u32 16909060) ∧ zX.cell? ⟨w.heap.size + 1 + 1, 3, none⟩ = some (.int .u16 53) ∧ True)) => zh.1)
  have GS := hide (fun (zX : World) (zh : (Below w.heap.size w zX ∧ Cells zX (w.heap.size + 1 + 1 + 1) #[.int .u8 17, .int .u32 167772161, .int .u16 5, .int .u32 16909060, .int .u16 53] 36 ∧ zX.cell? ⟨w.heap.size + 1 + 1 + 1, 0, none⟩ = some (.int .u8 17) ∧ zX.cell? ⟨w.heap.size + 1 + 1 + 1, 1, none⟩ = some (.int .u32 167772161) ∧ zX.cell? ⟨w.heap.size + 1 + 1 + 1, 2, none⟩ = some (.int .u16 5) ∧ zX.cell? ⟨w.heap.size + 1 + 1 + 1, 3, none⟩ = some (.int .u32 16909060) ∧ zX.cell? ⟨w.heap.size + 1 + 1 + 1, 4, none⟩ = some (.int .u16 53) ∧ Cells zX (w.heap.size + 1 + 1) #[.int .u32 84281096, .int .u16 9000, .int .u32 16909060, .int .u16 53] 28 ∧ zX.cell? ⟨w.heap.size + 1 + 1, 0, none⟩ = some (.int .u32 84281096) ∧ zX.cell? ⟨w.heap.size + 1 + 1, 1, none⟩ = some (.int .u16 9000) ∧ zX.cell? ⟨w.heap.size + 1 + 1, 2, none⟩ = some (.int .u32 16909060) ∧ zX.cell? ⟨w.heap.size + 1 + 1, 3, none⟩ = some (.int .u16 53) ∧ True)) => zh)
  have hS0 : (Below w.heap.size w wZ ∧ Cells wZ (w.heap.size + 1 + 1 + 1) #[.int .u8 17, .int .u32 167772161, .int .u16 5, .int .u32 16909060, .int .u16 53] 36 ∧ wZ.cell? ⟨w.heap.size + 1 + 1 + 1, 0, none⟩ = some (.int .u8 17) ∧ wZ.cell? ⟨w.heap.size + 1 + 1 + 1, 1, none⟩ = some (.int .u32 167772161) ∧ wZ.cell? ⟨w.heap.size + 1 + 1 + 1, 2, none⟩ = some (.int .u16 5) ∧ wZ.cell? ⟨w.heap.size + 1 + 1 + 1, 3, none⟩ = some (.int .u32 16909060) ∧ wZ.cell? ⟨w.heap.size + 1 + 1 + 1, 4, none⟩ = some (.int .u16 53) ∧ Cells wZ (w.heap.size + 1 + 1) #[.int .u32 84281096, .int .u16 9000, .int .u32 16909060, .int .u16 53] 28 ∧ wZ.cell? ⟨w.heap.size + 1 + 1, 0, none⟩ = some (.int .u32 84281096) ∧ wZ.cell? ⟨w.heap.size + 1 + 1, 1, none⟩ = some (.int .u16 9000) ∧ wZ.cell? ⟨w.heap.size + 1 + 1, 2, none⟩ = some (.int .u32 16909060) ∧ wZ.cell? ⟨w.heap.size + 1 + 1, 3, none⟩ = some (.int .u16 53) ∧ True) := ⟨(by (repeat' (first | with_reducible exact bZ | with_reducible exact Below.refl _ _ | with_reducible refine Below.setCell ?_ (by first | exact Nat.le_refl _ | (dsimp only; omega)) _ | with_reducible refine bstep ?_ (fresh_below _ _) | with_reducible refine Below.drew ?_))), hT, hT.at_ 0, hT.at_ 1, hT.at_ 2, hT.at_ 3, hT.at_ 4, hC, hC.at_ 0, hC.at_ 1, hC.at_ 2, hC.at_ 3, trivial⟩
  go_region_held_law (fun w' => (Below w.heap.size w w' ∧ Cells w' (w.heap.size + 1 + 1 + 1) #[.int .u8 17, .int .u32 167772161, .int .u16 5, .int .u32 16909060, .int .u16 53] 36 ∧ w'.cell? ⟨w.heap.size + 1 + 1 + 1, 0, none⟩ = some (.int .u8 17) ∧ w'.cell? ⟨w.heap.size + 1 + 1 + 1, 1, none⟩ = some (.int .u32 167772161) ∧ w'.cell? ⟨w.heap.size + 1 + 1 + 1, 2, none⟩ = some (.int .u16 5) ∧ w'.cell? ⟨w.heap.size + 1 + 1 + 1, 3, none⟩ = some (.int .u32 16909060) ∧ w'.cell? ⟨w.heap.size + 1 + 1 + 1, 4, none⟩ = some (.int .u16 53) ∧ Cells w' (w.heap.size + 1 + 1) #[.int .u32 84281096, .int .u16 9000, .int .u32 16909060, .int .u16 53] 28 ∧ w'.cell? ⟨w.heap.size + 1 + 1, 0, none⟩ = some (.int .u32 84281096) ∧ w'.cell? ⟨w.heap.size + 1 + 1, 1, none⟩ = some (.int .u16 9000) ∧ w'.cell? ⟨w.heap.size + 1 + 1, 2, none⟩ = some (.int .u32 16909060) ∧ w'.cell? ⟨w.heap.size + 1 + 1, 3, none⟩ = some (.int .u16 53) ∧ True)) (first | assumption | exact SK.out _ _ hS0 (Below.refl _ _).drew | exact SK.out _ _ hS0 (fresh_below _ _).drew | exact SK.out _ _ (by assumption) (fresh_below _ _) | (refine SK.out _ _ ?_ (by assumption); assumption))
    (first | (go_at_call 11; (with_reducible refine (M1.out _).mono ?_); rintro e wq ⟨rfl, bq⟩) | (go_at_call 6; (with_reducible refine (P1.out _ (HK.out.below (by first | exact FS.out _ (by assumption) | exact bstep (FS.out _ (by assumption)) (fresh_below _ _) | exact bstep (bstep (FS.out _ (by assumption)) (fresh_below _ _)) (fresh_below _ _)))).mono ?_); rintro e wq ⟨rfl, bq⟩))
  all_goals
    have gs := GS.out _ (by assumption)
    clear SK FS GS hS0 hT hC
    obtain ⟨gb, hT, _, _, _, _, _, hC, _, _, _, _, _⟩ := gs
    obtain ⟨wA, rfl⟩ : ∃ W : World, W = wq := ⟨_, rfl⟩
    have bA : Below w.heap.size w wA := gb
    clear gb
    go_wp2_with fail
    have SK := hide (fun (zX zY : World) (zh : (Below w.heap.size w zX ∧ Cells zX (w.heap.size + 1 + 1 + 1) #[.int .u8 17, .int .u32 167772161, .int .u16 5, .int .u32 16909060, .int .u16 53] 36 ∧ zX.cell? ⟨w.heap.size + 1 + 1 + 1, 0, none⟩ = some (.int .u8 17) ∧ zX.cell? ⟨w.heap.size + 1 + 1 + 1, 1, none⟩ = some (.int .u32 167772161) ∧ zX.cell? ⟨w.heap.size + 1 + 1 + 1, 2, none⟩ = some (.int .u16 5) ∧ zX.cell? ⟨w.heap.size + 1 + 1 + 1, 3, none⟩ = some (.int .u32 16909060) ∧ zX.cell? ⟨w.heap.size + 1 + 1 + 1, 4, none⟩ = some (.int .u16 53) ∧ Cells zX (w.heap.size + 1 + 1) #[.int .u32 84281096, .int .u16 9000, .int .u32 16909060, .int .u16 53] 28 ∧ zX.cell? ⟨w.heap.size + 1 + 1, 0, none⟩ = some (.int .u32 84281096) ∧ zX.cell? ⟨w.heap.size + 1 + 1, 1, none⟩ = some (.int .u16 9000) ∧ zX.cell? ⟨w.heap.size + 1 + 1, 2, none⟩ = some (.int .u32 16909060) ∧ zX.cell? ⟨w.heap.size + 1 + 1, 3, none⟩ = some (.int .u16 53) ∧ True)) (zb : Below zX.heap.size zX zY) => (show (Below w.heap.size w zY ∧ Cells zY (w.heap.size + 1 + 1 + 1) #[.int .u8 17, .int .u32 167772161, .int .u16 5, .int .u32 16909060, .int .u16 53] 36 ∧ zY.cell? ⟨w.heap.size + 1 + 1 + 1, 0, none⟩ = some (.int .u8 17) ∧ zY.cell? ⟨w.heap.size + 1 + 1 + 1, 1, none⟩ = some (.int .u32 167772161) ∧ zY.cell? ⟨w.heap.size + 1 + 1 + 1, 2, none⟩ = some (.int .u16 5) ∧ zY.cell? ⟨w.heap.size + 1 + 1 + 1, 3, none⟩ = some (.int .u32 16909060) ∧ zY.cell? ⟨w.heap.size + 1 + 1 + 1, 4, none⟩ = some (.int .u16 53) ∧ Cells zY (w.heap.size + 1 + 1) #[.int .u32 84281096, .int .u16 9000, .int .u32 16909060, .int .u16 53] 28 ∧ zY.cell? ⟨w.heap.size + 1 + 1, 0, none⟩ = some (.int .u32 84281096) ∧ zY.cell? ⟨w.heap.size + 1 + 1, 1, none⟩ = some (.int .u16 9000) ∧ zY.cell? ⟨w.heap.size + 1 + 1, 2, none⟩ = some (.int .u32 16909060) ∧ zY.cell? ⟨w.heap.size + 1 + 1, 3, none⟩ = some (.int .u16 53) ∧ True) from ⟨bstep zh.1 zb, Cells.below zb zh.2.1, cellAt zb zh.2.2.1, cellAt zb zh.2.2.2.1, cellAt zb zh.2.2.2.2.1, cellAt zb zh.2.2.2.2.2.1, cellAt zb zh.2.2.2.2.2.2.1, Cells.below zb zh.2.2.2.2.2.2.2.1, cellAt zb zh.2.2.2.2.2.2.2.2.1, cellAt zb zh.2.2.2.2.2.2.2.2.2.1, cellAt zb zh.2.2.2.2.2.2.2.2.2.2.1, cellAt zb zh.2.2.2.2.2.2.2.2.2.2.2.1, trivial⟩))
    have FS := hide (fun (zX : World) (zh : (Below w.heap.size w zX ∧ Cells zX (w.heap.size + 1 + 1 + 1) #[.int .u8 17, .int .u32 167772161, .int .u16 5, .int .u32 16909060, .int .u16 53] 36 ∧ zX.cell? ⟨w.heap.size + 1 + 1 + 1, 0, none⟩ = some (.int .u8 17) ∧ zX.cell? ⟨w.heap.size + 1 + 1 + 1, 1, none⟩ = some (.int .u32 167772161) ∧ zX.cell? ⟨w.heap.size + 1 + 1 + 1, 2, none⟩ = some (.int .u16 5) ∧ zX.cell? ⟨w.heap.size + 1 + 1 + 1, 3, none⟩ = some (.int .u32 16909060) ∧ zX.cell? ⟨w.heap.size + 1 + 1 + 1, 4, none⟩ = some (.int .u16 53) ∧ Cells zX (w.heap.size + 1 + 1) #[.int .u32 84281096, .int .u16 9000, .int .u32 16909060, .int .u16 53] 28 ∧ zX.cell? ⟨w.heap.size + 1 + 1, 0, none⟩ = some (.int .u32 84281096) ∧ zX.cell? ⟨w.heap.size + 1 + 1, 1, none⟩ = some (.int .u16 9000) ∧ zX.cell? ⟨w.heap.size + 1 + 1, 2, none⟩ = some (.int .u32 16909060) ∧ zX.cell? ⟨w.heap.size + 1 + 1, 3, none⟩ = some (.int .u16 53) ∧ True)) => zh.1)
    have GS := hide (fun (zX : World) (zh : (Below w.heap.size w zX ∧ Cells zX (w.heap.size + 1 + 1 + 1) #[.int .u8 17, .int .u32 167772161, .int .u16 5, .int .u32 16909060, .int .u16 53] 36 ∧ zX.cell? ⟨w.heap.size + 1 + 1 + 1, 0, none⟩ = some (.int .u8 17) ∧ zX.cell? ⟨w.heap.size + 1 + 1 + 1, 1, none⟩ = some (.int .u32 167772161) ∧ zX.cell? ⟨w.heap.size + 1 + 1 + 1, 2, none⟩ = some (.int .u16 5) ∧ zX.cell? ⟨w.heap.size + 1 + 1 + 1, 3, none⟩ = some (.int .u32 16909060) ∧ zX.cell? ⟨w.heap.size + 1 + 1 + 1, 4, none⟩ = some (.int .u16 53) ∧ Cells zX (w.heap.size + 1 + 1) #[.int .u32 84281096, .int .u16 9000, .int .u32 16909060, .int .u16 53] 28 ∧ zX.cell? ⟨w.heap.size + 1 + 1, 0, none⟩ = some (.int .u32 84281096) ∧ zX.cell? ⟨w.heap.size + 1 + 1, 1, none⟩ = some (.int .u16 9000) ∧ zX.cell? ⟨w.heap.size + 1 + 1, 2, none⟩ = some (.int .u32 16909060) ∧ zX.cell? ⟨w.heap.size + 1 + 1, 3, none⟩ = some (.int .u16 53) ∧ True)) => zh)
    have hS0 : (Below w.heap.size w wA ∧ Cells wA (w.heap.size + 1 + 1 + 1) #[.int .u8 17, .int .u32 167772161, .int .u16 5, .int .u32 16909060, .int .u16 53] 36 ∧ wA.cell? ⟨w.heap.size + 1 + 1 + 1, 0, none⟩ = some (.int .u8 17) ∧ wA.cell? ⟨w.heap.size + 1 + 1 + 1, 1, none⟩ = some (.int .u32 167772161) ∧ wA.cell? ⟨w.heap.size + 1 + 1 + 1, 2, none⟩ = some (.int .u16 5) ∧ wA.cell? ⟨w.heap.size + 1 + 1 + 1, 3, none⟩ = some (.int .u32 16909060) ∧ wA.cell? ⟨w.heap.size + 1 + 1 + 1, 4, none⟩ = some (.int .u16 53) ∧ Cells wA (w.heap.size + 1 + 1) #[.int .u32 84281096, .int .u16 9000, .int .u32 16909060, .int .u16 53] 28 ∧ wA.cell? ⟨w.heap.size + 1 + 1, 0, none⟩ = some (.int .u32 84281096) ∧ wA.cell? ⟨w.heap.size + 1 + 1, 1, none⟩ = some (.int .u16 9000) ∧ wA.cell? ⟨w.heap.size + 1 + 1, 2, none⟩ = some (.int .u32 16909060) ∧ wA.cell? ⟨w.heap.size + 1 + 1, 3, none⟩ = some (.int .u16 53) ∧ True) := ⟨(by (repeat' (first | with_reducible exact bA | with_reducible exact Below.refl _ _ | with_reducible refine Below.setCell ?_ (by first | exact Nat.le_refl _ | (dsimp only; omega)) _ | with_reducible refine bstep ?_ (fresh_below _ _) | with_reducible refine Below.drew ?_))), hT, hT.at_ 0, hT.at_ 1, hT.at_ 2, hT.at_ 3, hT.at_ 4, hC, hC.at_ 0, hC.at_ 1, hC.at_ 2, hC.at_ 3, trivial⟩
    go_region_held_law (fun w' => (Below w.heap.size w w' ∧ Cells w' (w.heap.size + 1 + 1 + 1) #[.int .u8 17, .int .u32 167772161, .int .u16 5, .int .u32 16909060, .int .u16 53] 36 ∧ w'.cell? ⟨w.heap.size + 1 + 1 + 1, 0, none⟩ = some (.int .u8 17) ∧ w'.cell? ⟨w.heap.size + 1 + 1 + 1, 1, none⟩ = some (.int .u32 167772161) ∧ w'.cell? ⟨w.heap.size + 1 + 1 + 1, 2, none⟩ = some (.int .u16 5) ∧ w'.cell? ⟨w.heap.size + 1 + 1 + 1, 3, none⟩ = some (.int .u32 16909060) ∧ w'.cell? ⟨w.heap.size + 1 + 1 + 1, 4, none⟩ = some (.int .u16 53) ∧ Cells w' (w.heap.size + 1 + 1) #[.int .u32 84281096, .int .u16 9000, .int .u32 16909060, .int .u16 53] 28 ∧ w'.cell? ⟨w.heap.size + 1 + 1, 0, none⟩ = some (.int .u32 84281096) ∧ w'.cell? ⟨w.heap.size + 1 + 1, 1, none⟩ = some (.int .u16 9000) ∧ w'.cell? ⟨w.heap.size + 1 + 1, 2, none⟩ = some (.int .u32 16909060) ∧ w'.cell? ⟨w.heap.size + 1 + 1, 3, none⟩ = some (.int .u16 53) ∧ True)) (first | assumption | exact SK.out _ _ hS0 (Below.refl _ _).drew | exact SK.out _ _ hS0 (fresh_below _ _).drew | exact SK.out _ _ (by assumption) (fresh_below _ _) | (refine SK.out _ _ ?_ (by assumption); assumption))
      (first | (go_at_call 11; (with_reducible refine (M2.out _).mono ?_); rintro e wq ⟨rfl, bq⟩) | (go_at_call 6; (with_reducible refine (P2.out _ (HK.out.below (by first | exact FS.out _ (by assumption) | exact bstep (FS.out _ (by assumption)) (fresh_below _ _) | exact bstep (bstep (FS.out _ (by assumption)) (fresh_below _ _)) (fresh_below _ _)))).mono ?_); rintro e wq ⟨rfl, bq⟩))
    all_goals
      have gs := GS.out _ (by assumption)
      clear SK FS GS hS0 hT hC
      obtain ⟨gb, hT, _, _, _, _, _, hC, _, _, _, _, _⟩ := gs
      obtain ⟨wB, rfl⟩ : ∃ W : World, W = wq := ⟨_, rfl⟩
      have bB : Below w.heap.size w wB := gb
      clear gb
      have xhC_0 : wB.cell? ⟨w.heap.size + 1 + 1, 0, none⟩ = some (.int .u32 84281096) := hC.at_ 0
      have xhC_1 : wB.cell? ⟨w.heap.size + 1 + 1, 1, none⟩ = some (.int .u16 9000) := hC.at_ 1
      have xhC_2 : wB.cell? ⟨w.heap.size + 1 + 1, 2, none⟩ = some (.int .u32 16909060) := hC.at_ 2
      have xhC_3 : wB.cell? ⟨w.heap.size + 1 + 1, 3, none⟩ = some (.int .u16 53) := hC.at_ 3
      go_wp2_with fail
      (with_reducible refine (P0.out _ (HK.out.below bB)).mono ?_)
      rintro e wC ⟨rfl, bC⟩
      replace hT := Cells.below bC hT
      replace hC := Cells.below bC hC
      replace bC : Below w.heap.size w wC := bstep bB bC
      clear xhC_0 xhC_1 xhC_2 xhC_3
      have xhT_0 : wC.cell? ⟨w.heap.size + 1 + 1 + 1, 0, none⟩ = some (.int .u8 17) := hT.at_ 0
      have xhT_1 : wC.cell? ⟨w.heap.size + 1 + 1 + 1, 1, none⟩ = some (.int .u32 167772161) := hT.at_ 1
      have xhT_2 : wC.cell? ⟨w.heap.size + 1 + 1 + 1, 2, none⟩ = some (.int .u16 5) := hT.at_ 2
      have xhT_3 : wC.cell? ⟨w.heap.size + 1 + 1 + 1, 3, none⟩ = some (.int .u32 16909060) := hT.at_ 3
      have xhT_4 : wC.cell? ⟨w.heap.size + 1 + 1 + 1, 4, none⟩ = some (.int .u16 53) := hT.at_ 4
      have yhT_0 : wC.frozen? ⟨w.heap.size + 1 + 1 + 1, 0, none⟩ = false := hT.free 0
      have yhT_1 : wC.frozen? ⟨w.heap.size + 1 + 1 + 1, 1, none⟩ = false := hT.free 1
      have yhT_2 : wC.frozen? ⟨w.heap.size + 1 + 1 + 1, 2, none⟩ = false := hT.free 2
      have yhT_3 : wC.frozen? ⟨w.heap.size + 1 + 1 + 1, 3, none⟩ = false := hT.free 3
      have yhT_4 : wC.frozen? ⟨w.heap.size + 1 + 1 + 1, 4, none⟩ = false := hT.free 4
      have hT1 := hT.set_ 0 (.int .u8 1)
      have hC1 := hC.other (show w.heap.size + 1 + 1 ≠ w.heap.size + 1 + 1 + 1 by omega) 0 (.int .u8 1)
      have bs1 := bC.setCell (p := ⟨w.heap.size + 1 + 1 + 1, 0, none⟩) (by dsimp only; omega) (.int .u8 1)
      have hT2 := hT1.set_ 2 (.int .u16 7)
      have hC2 := hC1.other (show w.heap.size + 1 + 1 ≠ w.heap.size + 1 + 1 + 1 by omega) 2 (.int .u16 7)
      have bs2 := bs1.setCell (p := ⟨w.heap.size + 1 + 1 + 1, 2, none⟩) (by dsimp only; omega) (.int .u16 7)
      have hT3 := hT2.set_ 4 (.int .u16 0)
      have hC3 := hC2.other (show w.heap.size + 1 + 1 ≠ w.heap.size + 1 + 1 + 1 by omega) 4 (.int .u16 0)
      have bs3 := bs2.setCell (p := ⟨w.heap.size + 1 + 1 + 1, 4, none⟩) (by dsimp only; omega) (.int .u16 0)
      have hTn : Cells (((wC.setCell ⟨w.heap.size + 1 + 1 + 1, 0, none⟩ (.int .u8 1)).setCell ⟨w.heap.size + 1 + 1 + 1, 2, none⟩ (.int .u16 7)).setCell ⟨w.heap.size + 1 + 1 + 1, 4, none⟩ (.int .u16 0)) (w.heap.size + 1 + 1 + 1) #[.int .u8 1, .int .u32 167772161, .int .u16 7, .int .u32 16909060, .int .u16 0] 36 := hT3
      have HTN := hide hTn; have HCN := hide hC3; have HBN := hide bs3
      clear hTn hT1 hC1 bs1 hT2 hC2 bs2 hT3 hC3 bs3 hT hC
      go_wp2_with fail
      generalize (((wC.setCell ⟨w.heap.size + 1 + 1 + 1, 0, none⟩ (.int .u8 1)).setCell ⟨w.heap.size + 1 + 1 + 1, 2, none⟩ (.int .u16 7)).setCell ⟨w.heap.size + 1 + 1 + 1, 4, none⟩ (.int .u16 0)) = wD at *
      have hT := HTN.out; have hC := HCN.out; have bD := HBN.out
      clear HTN HCN HBN xhT_0 yhT_0 xhT_1 yhT_1 xhT_2 yhT_2 xhT_3 yhT_3 xhT_4 yhT_4
      have SK := hide (fun (zX zY : World) (zh : (Below w.heap.size w zX ∧ Cells zX (w.heap.size + 1 + 1 + 1) #[.int .u8 1, .int .u32 167772161, .int .u16 7, .int .u32 16909060, .int .u16 0] 36 ∧ zX.cell? ⟨w.heap.size + 1 + 1 + 1, 0, none⟩ = some (.int .u8 1) ∧ zX.cell? ⟨w.heap.size + 1 + 1 + 1, 1, none⟩ = some (.int .u32 167772161) ∧ zX.cell? ⟨w.heap.size + 1 + 1 + 1, 2, none⟩ = some (.int .u16 7) ∧ zX.cell? ⟨w.heap.size + 1 + 1 + 1, 3, none⟩ = some (.int .u32 16909060) ∧ zX.cell? ⟨w.heap.size + 1 + 1 + 1, 4, none⟩ = some (.int .u16 0) ∧ Cells zX (w.heap.size + 1 + 1) #[.int .u32 84281096, .int .u16 9000, .int .u32 16909060, .int .u16 53] 28 ∧ zX.cell? ⟨w.heap.size + 1 + 1, 0, none⟩ = some (.int .u32 84281096) ∧ zX.cell? ⟨w.heap.size + 1 + 1, 1, none⟩ = some (.int .u16 9000) ∧ zX.cell? ⟨w.heap.size + 1 + 1, 2, none⟩ = some (.int .u32 16909060) ∧ zX.cell? ⟨w.heap.size + 1 + 1, 3, none⟩ = some (.int .u16 53) ∧ True)) (zb : Below zX.heap.size zX zY) => (show (Below w.heap.size w zY ∧ Cells zY (w.heap.size + 1 + 1 + 1) #[.int .u8 1, .int .u32 167772161, .int .u16 7, .int .u32 16909060, .int .u16 0] 36 ∧ zY.cell? ⟨w.heap.size + 1 + 1 + 1, 0, none⟩ = some (.int .u8 1) ∧ zY.cell? ⟨w.heap.size + 1 + 1 + 1, 1, none⟩ = some (.int .u32 167772161) ∧ zY.cell? ⟨w.heap.size + 1 + 1 + 1, 2, none⟩ = some (.int .u16 7) ∧ zY.cell? ⟨w.heap.size + 1 + 1 + 1, 3, none⟩ = some (.int .u32 16909060) ∧ zY.cell? ⟨w.heap.size + 1 + 1 + 1, 4, none⟩ = some (.int .u16 0) ∧ Cells zY (w.heap.size + 1 + 1) #[.int .u32 84281096, .int .u16 9000, .int .u32 16909060, .int .u16 53] 28 ∧ zY.cell? ⟨w.heap.size + 1 + 1, 0, none⟩ = some (.int .u32 84281096) ∧ zY.cell? ⟨w.heap.size + 1 + 1, 1, none⟩ = some (.int .u16 9000) ∧ zY.cell? ⟨w.heap.size + 1 + 1, 2, none⟩ = some (.int .u32 16909060) ∧ zY.cell? ⟨w.heap.size + 1 + 1, 3, none⟩ = some (.int .u16 53) ∧ True) from ⟨bstep zh.1 zb, Cells.below zb zh.2.1, cellAt zb zh.2.2.1, cellAt zb zh.2.2.2.1, cellAt zb zh.2.2.2.2.1, cellAt zb zh.2.2.2.2.2.1, cellAt zb zh.2.2.2.2.2.2.1, Cells.below zb zh.2.2.2.2.2.2.2.1, cellAt zb zh.2.2.2.2.2.2.2.2.1, cellAt zb zh.2.2.2.2.2.2.2.2.2.1, cellAt zb zh.2.2.2.2.2.2.2.2.2.2.1, cellAt zb zh.2.2.2.2.2.2.2.2.2.2.2.1, trivial⟩))
      have FS := hide (fun (zX : World) (zh : (Below w.heap.size w zX ∧ Cells zX (w.heap.size + 1 + 1 + 1) #[.int .u8 1, .int .u32 167772161, .int .u16 7, .int .u32 16909060, .int .u16 0] 36 ∧ zX.cell? ⟨w.heap.size + 1 + 1 + 1, 0, none⟩ = some (.int .u8 1) ∧ zX.cell? ⟨w.heap.size + 1 + 1 + 1, 1, none⟩ = some (.int .u32 167772161) ∧ zX.cell? ⟨w.heap.size + 1 + 1 + 1, 2, none⟩ = some (.int .u16 7) ∧ zX.cell? ⟨w.heap.size + 1 + 1 + 1, 3, none⟩ = some (.int .u32 16909060) ∧ zX.cell? ⟨w.heap.size + 1 + 1 + 1, 4, none⟩ = some (.int .u16 0) ∧ Cells zX (w.heap.size + 1 + 1) #[.int .u32 84281096, .int .u16 9000, .int .u32 16909060, .int .u16 53] 28 ∧ zX.cell? ⟨w.heap.size + 1 + 1, 0, none⟩ = some (.int .u32 84281096) ∧ zX.cell? ⟨w.heap.size + 1 + 1, 1, none⟩ = some (.int .u16 9000) ∧ zX.cell? ⟨w.heap.size + 1 + 1, 2, none⟩ = some (.int .u32 16909060) ∧ zX.cell? ⟨w.heap.size + 1 + 1, 3, none⟩ = some (.int .u16 53) ∧ True)) => zh.1)
      have GS := hide (fun (zX : World) (zh : (Below w.heap.size w zX ∧ Cells zX (w.heap.size + 1 + 1 + 1) #[.int .u8 1, .int .u32 167772161, .int .u16 7, .int .u32 16909060, .int .u16 0] 36 ∧ zX.cell? ⟨w.heap.size + 1 + 1 + 1, 0, none⟩ = some (.int .u8 1) ∧ zX.cell? ⟨w.heap.size + 1 + 1 + 1, 1, none⟩ = some (.int .u32 167772161) ∧ zX.cell? ⟨w.heap.size + 1 + 1 + 1, 2, none⟩ = some (.int .u16 7) ∧ zX.cell? ⟨w.heap.size + 1 + 1 + 1, 3, none⟩ = some (.int .u32 16909060) ∧ zX.cell? ⟨w.heap.size + 1 + 1 + 1, 4, none⟩ = some (.int .u16 0) ∧ Cells zX (w.heap.size + 1 + 1) #[.int .u32 84281096, .int .u16 9000, .int .u32 16909060, .int .u16 53] 28 ∧ zX.cell? ⟨w.heap.size + 1 + 1, 0, none⟩ = some (.int .u32 84281096) ∧ zX.cell? ⟨w.heap.size + 1 + 1, 1, none⟩ = some (.int .u16 9000) ∧ zX.cell? ⟨w.heap.size + 1 + 1, 2, none⟩ = some (.int .u32 16909060) ∧ zX.cell? ⟨w.heap.size + 1 + 1, 3, none⟩ = some (.int .u16 53) ∧ True)) => zh)
      have hS0 : (Below w.heap.size w wD ∧ Cells wD (w.heap.size + 1 + 1 + 1) #[.int .u8 1, .int .u32 167772161, .int .u16 7, .int .u32 16909060, .int .u16 0] 36 ∧ wD.cell? ⟨w.heap.size + 1 + 1 + 1, 0, none⟩ = some (.int .u8 1) ∧ wD.cell? ⟨w.heap.size + 1 + 1 + 1, 1, none⟩ = some (.int .u32 167772161) ∧ wD.cell? ⟨w.heap.size + 1 + 1 + 1, 2, none⟩ = some (.int .u16 7) ∧ wD.cell? ⟨w.heap.size + 1 + 1 + 1, 3, none⟩ = some (.int .u32 16909060) ∧ wD.cell? ⟨w.heap.size + 1 + 1 + 1, 4, none⟩ = some (.int .u16 0) ∧ Cells wD (w.heap.size + 1 + 1) #[.int .u32 84281096, .int .u16 9000, .int .u32 16909060, .int .u16 53] 28 ∧ wD.cell? ⟨w.heap.size + 1 + 1, 0, none⟩ = some (.int .u32 84281096) ∧ wD.cell? ⟨w.heap.size + 1 + 1, 1, none⟩ = some (.int .u16 9000) ∧ wD.cell? ⟨w.heap.size + 1 + 1, 2, none⟩ = some (.int .u32 16909060) ∧ wD.cell? ⟨w.heap.size + 1 + 1, 3, none⟩ = some (.int .u16 53) ∧ True) := ⟨(by (repeat' (first | with_reducible exact bD | with_reducible exact Below.refl _ _ | with_reducible refine Below.setCell ?_ (by first | exact Nat.le_refl _ | (dsimp only; omega)) _ | with_reducible refine bstep ?_ (fresh_below _ _) | with_reducible refine Below.drew ?_))), hT, hT.at_ 0, hT.at_ 1, hT.at_ 2, hT.at_ 3, hT.at_ 4, hC, hC.at_ 0, hC.at_ 1, hC.at_ 2, hC.at_ 3, trivial⟩
      go_region_held_law (fun w' => (Below w.heap.size w w' ∧ Cells w' (w.heap.size + 1 + 1 + 1) #[.int .u8 1, .int .u32 167772161, .int .u16 7, .int .u32 16909060, .int .u16 0] 36 ∧ w'.cell? ⟨w.heap.size + 1 + 1 + 1, 0, none⟩ = some (.int .u8 1) ∧ w'.cell? ⟨w.heap.size + 1 + 1 + 1, 1, none⟩ = some (.int .u32 167772161) ∧ w'.cell? ⟨w.heap.size + 1 + 1 + 1, 2, none⟩ = some (.int .u16 7) ∧ w'.cell? ⟨w.heap.size + 1 + 1 + 1, 3, none⟩ = some (.int .u32 16909060) ∧ w'.cell? ⟨w.heap.size + 1 + 1 + 1, 4, none⟩ = some (.int .u16 0) ∧ Cells w' (w.heap.size + 1 + 1) #[.int .u32 84281096, .int .u16 9000, .int .u32 16909060, .int .u16 53] 28 ∧ w'.cell? ⟨w.heap.size + 1 + 1, 0, none⟩ = some (.int .u32 84281096) ∧ w'.cell? ⟨w.heap.size + 1 + 1, 1, none⟩ = some (.int .u16 9000) ∧ w'.cell? ⟨w.heap.size + 1 + 1, 2, none⟩ = some (.int .u32 16909060) ∧ w'.cell? ⟨w.heap.size + 1 + 1, 3, none⟩ = some (.int .u16 53) ∧ True)) (first | assumption | exact SK.out _ _ hS0 (Below.refl _ _).drew | exact SK.out _ _ hS0 (fresh_below _ _).drew | exact SK.out _ _ (by assumption) (fresh_below _ _) | (refine SK.out _ _ ?_ (by assumption); assumption))
        (first | (go_at_call 11; (with_reducible refine (M3.out _).mono ?_); rintro e wq ⟨rfl, bq⟩) | (go_at_call 6; (with_reducible refine (P3.out _ (HK.out.below (by first | exact FS.out _ (by assumption) | exact bstep (FS.out _ (by assumption)) (fresh_below _ _) | exact bstep (bstep (FS.out _ (by assumption)) (fresh_below _ _)) (fresh_below _ _)))).mono ?_); rintro e wq ⟨rfl, bq⟩))
      all_goals
        have gs := GS.out _ (by assumption)
        clear SK FS GS hS0 hT hC
        obtain ⟨gb, hT, _, _, _, _, _, hC, _, _, _, _, _⟩ := gs
        obtain ⟨wE, rfl⟩ : ∃ W : World, W = wq := ⟨_, rfl⟩
        have bE : Below w.heap.size w wE := gb
        clear gb
        have xhT_0 : wE.cell? ⟨w.heap.size + 1 + 1 + 1, 0, none⟩ = some (.int .u8 1) := hT.at_ 0
        have xhT_1 : wE.cell? ⟨w.heap.size + 1 + 1 + 1, 1, none⟩ = some (.int .u32 167772161) := hT.at_ 1
        have xhT_2 : wE.cell? ⟨w.heap.size + 1 + 1 + 1, 2, none⟩ = some (.int .u16 7) := hT.at_ 2
        have xhT_3 : wE.cell? ⟨w.heap.size + 1 + 1 + 1, 3, none⟩ = some (.int .u32 16909060) := hT.at_ 3
        have xhT_4 : wE.cell? ⟨w.heap.size + 1 + 1 + 1, 4, none⟩ = some (.int .u16 0) := hT.at_ 4
        have yhT_0 : wE.frozen? ⟨w.heap.size + 1 + 1 + 1, 0, none⟩ = false := hT.free 0
        have yhT_1 : wE.frozen? ⟨w.heap.size + 1 + 1 + 1, 1, none⟩ = false := hT.free 1
        have yhT_2 : wE.frozen? ⟨w.heap.size + 1 + 1 + 1, 2, none⟩ = false := hT.free 2
        have yhT_3 : wE.frozen? ⟨w.heap.size + 1 + 1 + 1, 3, none⟩ = false := hT.free 3
        have yhT_4 : wE.frozen? ⟨w.heap.size + 1 + 1 + 1, 4, none⟩ = false := hT.free 4
        have hT1 := hT.set_ 2 (.int .u16 0)
        have hC1 := hC.other (show w.heap.size + 1 + 1 ≠ w.heap.size + 1 + 1 + 1 by omega) 2 (.int .u16 0)
        have bs1 := bE.setCell (p := ⟨w.heap.size + 1 + 1 + 1, 2, none⟩) (by dsimp only; omega) (.int .u16 0)
        have hT2 := hT1.set_ 4 (.int .u16 7)
        have hC2 := hC1.other (show w.heap.size + 1 + 1 ≠ w.heap.size + 1 + 1 + 1 by omega) 4 (.int .u16 7)
        have bs2 := bs1.setCell (p := ⟨w.heap.size + 1 + 1 + 1, 4, none⟩) (by dsimp only; omega) (.int .u16 7)
        have hTn : Cells ((wE.setCell ⟨w.heap.size + 1 + 1 + 1, 2, none⟩ (.int .u16 0)).setCell ⟨w.heap.size + 1 + 1 + 1, 4, none⟩ (.int .u16 7)) (w.heap.size + 1 + 1 + 1) #[.int .u8 1, .int .u32 167772161, .int .u16 0, .int .u32 16909060, .int .u16 7] 36 := hT2
        have HTN := hide hTn; have HCN := hide hC2; have HBN := hide bs2
        clear hTn hT1 hC1 bs1 hT2 hC2 bs2 hT hC
        go_wp2_with fail
        generalize ((wE.setCell ⟨w.heap.size + 1 + 1 + 1, 2, none⟩ (.int .u16 0)).setCell ⟨w.heap.size + 1 + 1 + 1, 4, none⟩ (.int .u16 7)) = wF at *
        have hT := HTN.out; have hC := HCN.out; have bF := HBN.out
        clear HTN HCN HBN xhT_0 yhT_0 xhT_1 yhT_1 xhT_2 yhT_2 xhT_3 yhT_3 xhT_4 yhT_4
        have SK := hide (fun (zX zY : World) (zh : (Below w.heap.size w zX ∧ Cells zX (w.heap.size + 1 + 1 + 1) #[.int .u8 1, .int .u32 167772161, .int .u16 0, .int .u32 16909060, .int .u16 7] 36 ∧ zX.cell? ⟨w.heap.size + 1 + 1 + 1, 0, none⟩ = some (.int .u8 1) ∧ zX.cell? ⟨w.heap.size + 1 + 1 + 1, 1, none⟩ = some (.int .u32 167772161) ∧ zX.cell? ⟨w.heap.size + 1 + 1 + 1, 2, none⟩ = some (.int .u16 0) ∧ zX.cell? ⟨w.heap.size + 1 + 1 + 1, 3, none⟩ = some (.int .u32 16909060) ∧ zX.cell? ⟨w.heap.size + 1 + 1 + 1, 4, none⟩ = some (.int .u16 7) ∧ Cells zX (w.heap.size + 1 + 1) #[.int .u32 84281096, .int .u16 9000, .int .u32 16909060, .int .u16 53] 28 ∧ zX.cell? ⟨w.heap.size + 1 + 1, 0, none⟩ = some (.int .u32 84281096) ∧ zX.cell? ⟨w.heap.size + 1 + 1, 1, none⟩ = some (.int .u16 9000) ∧ zX.cell? ⟨w.heap.size + 1 + 1, 2, none⟩ = some (.int .u32 16909060) ∧ zX.cell? ⟨w.heap.size + 1 + 1, 3, none⟩ = some (.int .u16 53) ∧ True)) (zb : Below zX.heap.size zX zY) => (show (Below w.heap.size w zY ∧ Cells zY (w.heap.size + 1 + 1 + 1) #[.int .u8 1, .int .u32 167772161, .int .u16 0, .int .u32 16909060, .int .u16 7] 36 ∧ zY.cell? ⟨w.heap.size + 1 + 1 + 1, 0, none⟩ = some (.int .u8 1) ∧ zY.cell? ⟨w.heap.size + 1 + 1 + 1, 1, none⟩ = some (.int .u32 167772161) ∧ zY.cell? ⟨w.heap.size + 1 + 1 + 1, 2, none⟩ = some (.int .u16 0) ∧ zY.cell? ⟨w.heap.size + 1 + 1 + 1, 3, none⟩ = some (.int .u32 16909060) ∧ zY.cell? ⟨w.heap.size + 1 + 1 + 1, 4, none⟩ = some (.int .u16 7) ∧ Cells zY (w.heap.size + 1 + 1) #[.int .u32 84281096, .int .u16 9000, .int .u32 16909060, .int .u16 53] 28 ∧ zY.cell? ⟨w.heap.size + 1 + 1, 0, none⟩ = some (.int .u32 84281096) ∧ zY.cell? ⟨w.heap.size + 1 + 1, 1, none⟩ = some (.int .u16 9000) ∧ zY.cell? ⟨w.heap.size + 1 + 1, 2, none⟩ = some (.int .u32 16909060) ∧ zY.cell? ⟨w.heap.size + 1 + 1, 3, none⟩ = some (.int .u16 53) ∧ True) from ⟨bstep zh.1 zb, Cells.below zb zh.2.1, cellAt zb zh.2.2.1, cellAt zb zh.2.2.2.1, cellAt zb zh.2.2.2.2.1, cellAt zb zh.2.2.2.2.2.1, cellAt zb zh.2.2.2.2.2.2.1, Cells.below zb zh.2.2.2.2.2.2.2.1, cellAt zb zh.2.2.2.2.2.2.2.2.1, cellAt zb zh.2.2.2.2.2.2.2.2.2.1, cellAt zb zh.2.2.2.2.2.2.2.2.2.2.1, cellAt zb zh.2.2.2.2.2.2.2.2.2.2.2.1, trivial⟩))
        have FS := hide (fun (zX : World) (zh : (Below w.heap.size w zX ∧ Cells zX (w.heap.size + 1 + 1 + 1) #[.int .u8 1, .int .u32 167772161, .int .u16 0, .int .u32 16909060, .int .u16 7] 36 ∧ zX.cell? ⟨w.heap.size + 1 + 1 + 1, 0, none⟩ = some (.int .u8 1) ∧ zX.cell? ⟨w.heap.size + 1 + 1 + 1, 1, none⟩ = some (.int .u32 167772161) ∧ zX.cell? ⟨w.heap.size + 1 + 1 + 1, 2, none⟩ = some (.int .u16 0) ∧ zX.cell? ⟨w.heap.size + 1 + 1 + 1, 3, none⟩ = some (.int .u32 16909060) ∧ zX.cell? ⟨w.heap.size + 1 + 1 + 1, 4, none⟩ = some (.int .u16 7) ∧ Cells zX (w.heap.size + 1 + 1) #[.int .u32 84281096, .int .u16 9000, .int .u32 16909060, .int .u16 53] 28 ∧ zX.cell? ⟨w.heap.size + 1 + 1, 0, none⟩ = some (.int .u32 84281096) ∧ zX.cell? ⟨w.heap.size + 1 + 1, 1, none⟩ = some (.int .u16 9000) ∧ zX.cell? ⟨w.heap.size + 1 + 1, 2, none⟩ = some (.int .u32 16909060) ∧ zX.cell? ⟨w.heap.size + 1 + 1, 3, none⟩ = some (.int .u16 53) ∧ True)) => zh.1)
        have GS := hide (fun (zX : World) (zh : (Below w.heap.size w zX ∧ Cells zX (w.heap.size + 1 + 1 + 1) #[.int .u8 1, .int .u32 167772161, .int .u16 0, .int .u32 16909060, .int .u16 7] 36 ∧ zX.cell? ⟨w.heap.size + 1 + 1 + 1, 0, none⟩ = some (.int .u8 1) ∧ zX.cell? ⟨w.heap.size + 1 + 1 + 1, 1, none⟩ = some (.int .u32 167772161) ∧ zX.cell? ⟨w.heap.size + 1 + 1 + 1, 2, none⟩ = some (.int .u16 0) ∧ zX.cell? ⟨w.heap.size + 1 + 1 + 1, 3, none⟩ = some (.int .u32 16909060) ∧ zX.cell? ⟨w.heap.size + 1 + 1 + 1, 4, none⟩ = some (.int .u16 7) ∧ Cells zX (w.heap.size + 1 + 1) #[.int .u32 84281096, .int .u16 9000, .int .u32 16909060, .int .u16 53] 28 ∧ zX.cell? ⟨w.heap.size + 1 + 1, 0, none⟩ = some (.int .u32 84281096) ∧ zX.cell? ⟨w.heap.size + 1 + 1, 1, none⟩ = some (.int .u16 9000) ∧ zX.cell? ⟨w.heap.size + 1 + 1, 2, none⟩ = some (.int .u32 16909060) ∧ zX.cell? ⟨w.heap.size + 1 + 1, 3, none⟩ = some (.int .u16 53) ∧ True)) => zh)
        have hS0 : (Below w.heap.size w wF ∧ Cells wF (w.heap.size + 1 + 1 + 1) #[.int .u8 1, .int .u32 167772161, .int .u16 0, .int .u32 16909060, .int .u16 7] 36 ∧ wF.cell? ⟨w.heap.size + 1 + 1 + 1, 0, none⟩ = some (.int .u8 1) ∧ wF.cell? ⟨w.heap.size + 1 + 1 + 1, 1, none⟩ = some (.int .u32 167772161) ∧ wF.cell? ⟨w.heap.size + 1 + 1 + 1, 2, none⟩ = some (.int .u16 0) ∧ wF.cell? ⟨w.heap.size + 1 + 1 + 1, 3, none⟩ = some (.int .u32 16909060) ∧ wF.cell? ⟨w.heap.size + 1 + 1 + 1, 4, none⟩ = some (.int .u16 7) ∧ Cells wF (w.heap.size + 1 + 1) #[.int .u32 84281096, .int .u16 9000, .int .u32 16909060, .int .u16 53] 28 ∧ wF.cell? ⟨w.heap.size + 1 + 1, 0, none⟩ = some (.int .u32 84281096) ∧ wF.cell? ⟨w.heap.size + 1 + 1, 1, none⟩ = some (.int .u16 9000) ∧ wF.cell? ⟨w.heap.size + 1 + 1, 2, none⟩ = some (.int .u32 16909060) ∧ wF.cell? ⟨w.heap.size + 1 + 1, 3, none⟩ = some (.int .u16 53) ∧ True) := ⟨(by (repeat' (first | with_reducible exact bF | with_reducible exact Below.refl _ _ | with_reducible refine Below.setCell ?_ (by first | exact Nat.le_refl _ | (dsimp only; omega)) _ | with_reducible refine bstep ?_ (fresh_below _ _) | with_reducible refine Below.drew ?_))), hT, hT.at_ 0, hT.at_ 1, hT.at_ 2, hT.at_ 3, hT.at_ 4, hC, hC.at_ 0, hC.at_ 1, hC.at_ 2, hC.at_ 3, trivial⟩
        go_region_held_law (fun w' => (Below w.heap.size w w' ∧ Cells w' (w.heap.size + 1 + 1 + 1) #[.int .u8 1, .int .u32 167772161, .int .u16 0, .int .u32 16909060, .int .u16 7] 36 ∧ w'.cell? ⟨w.heap.size + 1 + 1 + 1, 0, none⟩ = some (.int .u8 1) ∧ w'.cell? ⟨w.heap.size + 1 + 1 + 1, 1, none⟩ = some (.int .u32 167772161) ∧ w'.cell? ⟨w.heap.size + 1 + 1 + 1, 2, none⟩ = some (.int .u16 0) ∧ w'.cell? ⟨w.heap.size + 1 + 1 + 1, 3, none⟩ = some (.int .u32 16909060) ∧ w'.cell? ⟨w.heap.size + 1 + 1 + 1, 4, none⟩ = some (.int .u16 7) ∧ Cells w' (w.heap.size + 1 + 1) #[.int .u32 84281096, .int .u16 9000, .int .u32 16909060, .int .u16 53] 28 ∧ w'.cell? ⟨w.heap.size + 1 + 1, 0, none⟩ = some (.int .u32 84281096) ∧ w'.cell? ⟨w.heap.size + 1 + 1, 1, none⟩ = some (.int .u16 9000) ∧ w'.cell? ⟨w.heap.size + 1 + 1, 2, none⟩ = some (.int .u32 16909060) ∧ w'.cell? ⟨w.heap.size + 1 + 1, 3, none⟩ = some (.int .u16 53) ∧ True)) (first | assumption | exact SK.out _ _ hS0 (Below.refl _ _).drew | exact SK.out _ _ hS0 (fresh_below _ _).drew | exact SK.out _ _ (by assumption) (fresh_below _ _) | (refine SK.out _ _ ?_ (by assumption); assumption))
          (first | (go_at_call 11; (with_reducible refine (M4.out _).mono ?_); rintro e wq ⟨rfl, bq⟩) | (go_at_call 6; (with_reducible refine (P4.out _ (HK.out.below (by first | exact FS.out _ (by assumption) | exact bstep (FS.out _ (by assumption)) (fresh_below _ _) | exact bstep (bstep (FS.out _ (by assumption)) (fresh_below _ _)) (fresh_below _ _)))).mono ?_); rintro e wq ⟨rfl, bq⟩))
        all_goals
          have gs := GS.out _ (by assumption)
          clear SK FS GS hS0 hT hC
          obtain ⟨gb, hT, _, _, _, _, _, hC, _, _, _, _, _⟩ := gs
          obtain ⟨wG, rfl⟩ : ∃ W : World, W = wq := ⟨_, rfl⟩
          have bG : Below w.heap.size w wG := gb
          clear gb
          clear hT hC
          go_wp2_with fail
          (with_reducible refine (O1.out _ (HK.out.below bG)).mono ?_)
          rintro e wH ⟨rfl, bH⟩
          have d1 := Cells.new wH #[.int .u8 17, .int .u32 84281096, .int .u16 9000, .int .u32 16909060, .int .u16 53, .int .i64 2, .int .u8 0, .bool false, .int .u8 63] 38
          replace bH : Below w.heap.size w (wH.alloc (.cells #[.int .u8 17, .int .u32 84281096, .int .u16 9000, .int .u32 16909060, .int .u16 53, .int .i64 2, .int .u8 0, .bool false, .int .u8 63] 38)) := bstep (bstep bG bH) (fresh_below _ _)
          go_wp2_with fail
          (with_reducible refine (O3.out _ (HK.out.below bH)).mono ?_)
          rintro e wI ⟨rfl, bI⟩
          replace d1 := Cells.alloc (Cells.below bI d1) (.cells #[.int .u8 1, .int .u32 84281096, .int .u16 9000, .int .u32 16909060, .int .u16 0, .int .i64 2, .int .u8 0, .bool true, .int .u8 63] 38)
          have d3 := Cells.new wI #[.int .u8 1, .int .u32 84281096, .int .u16 9000, .int .u32 16909060, .int .u16 0, .int .i64 2, .int .u8 0, .bool true, .int .u8 63] 38
          replace bI : Below w.heap.size w (wI.alloc (.cells #[.int .u8 1, .int .u32 84281096, .int .u16 9000, .int .u32 16909060, .int .u16 0, .int .i64 2, .int .u8 0, .bool true, .int .u8 63] 38)) := bstep (bstep bH bI) (fresh_below _ _)
          go_wp2_with fail
          (with_reducible refine (O4.out _ (HK.out.below bI)).mono ?_)
          rintro e wJ ⟨rfl, bJ⟩
          replace d1 := Cells.alloc (Cells.below bJ d1) (.cells #[.int .u8 1, .int .u32 84281096, .int .u16 0, .int .u32 16909060, .int .u16 53, .int .i64 2, .int .u8 0, .bool false, .int .u8 63] 38)
          replace d3 := Cells.alloc (Cells.below bJ d3) (.cells #[.int .u8 1, .int .u32 84281096, .int .u16 0, .int .u32 16909060, .int .u16 53, .int .i64 2, .int .u8 0, .bool false, .int .u8 63] 38)
          have d4 := Cells.new wJ #[.int .u8 1, .int .u32 84281096, .int .u16 0, .int .u32 16909060, .int .u16 53, .int .i64 2, .int .u8 0, .bool false, .int .u8 63] 38
          replace bJ : Below w.heap.size w (wJ.alloc (.cells #[.int .u8 1, .int .u32 84281096, .int .u16 0, .int .u32 16909060, .int .u16 53, .int .i64 2, .int .u8 0, .bool false, .int .u8 63] 38)) := bstep (bstep bI bJ) (fresh_below _ _)
          have xd1_0 : ((wJ.alloc (.cells #[.int .u8 1, .int .u32 84281096, .int .u16 0, .int .u32 16909060, .int .u16 53, .int .i64 2, .int .u8 0, .bool false, .int .u8 63] 38))).cell? ⟨wH.heap.size, 0, none⟩ = some (.int .u8 17) := d1.at_ 0
          have xd1_1 : ((wJ.alloc (.cells #[.int .u8 1, .int .u32 84281096, .int .u16 0, .int .u32 16909060, .int .u16 53, .int .i64 2, .int .u8 0, .bool false, .int .u8 63] 38))).cell? ⟨wH.heap.size, 1, none⟩ = some (.int .u32 84281096) := d1.at_ 1
          have xd1_2 : ((wJ.alloc (.cells #[.int .u8 1, .int .u32 84281096, .int .u16 0, .int .u32 16909060, .int .u16 53, .int .i64 2, .int .u8 0, .bool false, .int .u8 63] 38))).cell? ⟨wH.heap.size, 2, none⟩ = some (.int .u16 9000) := d1.at_ 2
          have xd1_3 : ((wJ.alloc (.cells #[.int .u8 1, .int .u32 84281096, .int .u16 0, .int .u32 16909060, .int .u16 53, .int .i64 2, .int .u8 0, .bool false, .int .u8 63] 38))).cell? ⟨wH.heap.size, 3, none⟩ = some (.int .u32 16909060) := d1.at_ 3
          have xd1_4 : ((wJ.alloc (.cells #[.int .u8 1, .int .u32 84281096, .int .u16 0, .int .u32 16909060, .int .u16 53, .int .i64 2, .int .u8 0, .bool false, .int .u8 63] 38))).cell? ⟨wH.heap.size, 4, none⟩ = some (.int .u16 53) := d1.at_ 4
          have xd1_5 : ((wJ.alloc (.cells #[.int .u8 1, .int .u32 84281096, .int .u16 0, .int .u32 16909060, .int .u16 53, .int .i64 2, .int .u8 0, .bool false, .int .u8 63] 38))).cell? ⟨wH.heap.size, 5, none⟩ = some (.int .i64 2) := d1.at_ 5
          have xd1_6 : ((wJ.alloc (.cells #[.int .u8 1, .int .u32 84281096, .int .u16 0, .int .u32 16909060, .int .u16 53, .int .i64 2, .int .u8 0, .bool false, .int .u8 63] 38))).cell? ⟨wH.heap.size, 6, none⟩ = some (.int .u8 0) := d1.at_ 6
          have xd1_7 : ((wJ.alloc (.cells #[.int .u8 1, .int .u32 84281096, .int .u16 0, .int .u32 16909060, .int .u16 53, .int .i64 2, .int .u8 0, .bool false, .int .u8 63] 38))).cell? ⟨wH.heap.size, 7, none⟩ = some (.bool false) := d1.at_ 7
          have xd1_8 : ((wJ.alloc (.cells #[.int .u8 1, .int .u32 84281096, .int .u16 0, .int .u32 16909060, .int .u16 53, .int .i64 2, .int .u8 0, .bool false, .int .u8 63] 38))).cell? ⟨wH.heap.size, 8, none⟩ = some (.int .u8 63) := d1.at_ 8
          go_wp2_with fail
          (with_reducible refine (TX.out _ (HTB.out.below bJ)).mono ?_)
          rintro e wK ⟨rfl, bK⟩
          replace d1 := Cells.below bK d1
          replace d3 := Cells.below bK d3
          replace d4 := Cells.below bK d4
          replace bK : Below w.heap.size w wK := bstep bJ bK
          clear xd1_0 xd1_1 xd1_2 xd1_3 xd1_4 xd1_5 xd1_6 xd1_7 xd1_8
          have xd1_0 : wK.cell? ⟨wH.heap.size, 0, none⟩ = some (.int .u8 17) := d1.at_ 0
          have xd1_1 : wK.cell? ⟨wH.heap.size, 1, none⟩ = some (.int .u32 84281096) := d1.at_ 1
          have xd1_2 : wK.cell? ⟨wH.heap.size, 2, none⟩ = some (.int .u16 9000) := d1.at_ 2
          have xd1_3 : wK.cell? ⟨wH.heap.size, 3, none⟩ = some (.int .u32 16909060) := d1.at_ 3
          have xd1_4 : wK.cell? ⟨wH.heap.size, 4, none⟩ = some (.int .u16 53) := d1.at_ 4
          have xd1_5 : wK.cell? ⟨wH.heap.size, 5, none⟩ = some (.int .i64 2) := d1.at_ 5
          have xd1_6 : wK.cell? ⟨wH.heap.size, 6, none⟩ = some (.int .u8 0) := d1.at_ 6
          have xd1_7 : wK.cell? ⟨wH.heap.size, 7, none⟩ = some (.bool false) := d1.at_ 7
          have xd1_8 : wK.cell? ⟨wH.heap.size, 8, none⟩ = some (.int .u8 63) := d1.at_ 8
          have xd3_0 : wK.cell? ⟨wI.heap.size, 0, none⟩ = some (.int .u8 1) := d3.at_ 0
          have xd3_1 : wK.cell? ⟨wI.heap.size, 1, none⟩ = some (.int .u32 84281096) := d3.at_ 1
          have xd3_2 : wK.cell? ⟨wI.heap.size, 2, none⟩ = some (.int .u16 9000) := d3.at_ 2
          have xd3_3 : wK.cell? ⟨wI.heap.size, 3, none⟩ = some (.int .u32 16909060) := d3.at_ 3
          have xd3_4 : wK.cell? ⟨wI.heap.size, 4, none⟩ = some (.int .u16 0) := d3.at_ 4
          have xd3_5 : wK.cell? ⟨wI.heap.size, 5, none⟩ = some (.int .i64 2) := d3.at_ 5
          have xd3_6 : wK.cell? ⟨wI.heap.size, 6, none⟩ = some (.int .u8 0) := d3.at_ 6
          have xd3_7 : wK.cell? ⟨wI.heap.size, 7, none⟩ = some (.bool true) := d3.at_ 7
          have xd3_8 : wK.cell? ⟨wI.heap.size, 8, none⟩ = some (.int .u8 63) := d3.at_ 8
          have xd4_0 : wK.cell? ⟨wJ.heap.size, 0, none⟩ = some (.int .u8 1) := d4.at_ 0
          have xd4_1 : wK.cell? ⟨wJ.heap.size, 1, none⟩ = some (.int .u32 84281096) := d4.at_ 1
          have xd4_2 : wK.cell? ⟨wJ.heap.size, 2, none⟩ = some (.int .u16 0) := d4.at_ 2
          have xd4_3 : wK.cell? ⟨wJ.heap.size, 3, none⟩ = some (.int .u32 16909060) := d4.at_ 3
          have xd4_4 : wK.cell? ⟨wJ.heap.size, 4, none⟩ = some (.int .u16 53) := d4.at_ 4
          have xd4_5 : wK.cell? ⟨wJ.heap.size, 5, none⟩ = some (.int .i64 2) := d4.at_ 5
          have xd4_6 : wK.cell? ⟨wJ.heap.size, 6, none⟩ = some (.int .u8 0) := d4.at_ 6
          have xd4_7 : wK.cell? ⟨wJ.heap.size, 7, none⟩ = some (.bool false) := d4.at_ 7
          have xd4_8 : wK.cell? ⟨wJ.heap.size, 8, none⟩ = some (.int .u8 63) := d4.at_ 8
          go_wp2_with fail
          go_ret
          exact ⟨rfl, bK⟩

end Go.Proofs.YtpidgmamollmgaaGreatDoor
end

section
/- The document's answer for rewrite (porterref09): With, Word, Pair, Query, over this program. -/
set_option linter.unusedVariables false
set_option linter.unusedSimpArgs false
namespace Go.Proofs.YtpidgmamollmgaaGreatDoor
open Go.RowKit
attribute [local go_sem] Oper.semAt_some

theorem r_Get16_in (s : ByteArray) (k : Nat) (w : World) (hs : s.size ≤ 140737488351232) (h : k + 2 ≤ s.size) : Calls Tryz.prog 97 #[.string s, .int .i64 k] w (Ret (.tuple #[.int .u16 (be16 (L s) k), .bool true]) w) := by
  have c := r_Get16 s (k : Int) w (by unfold maxLen; omega) ⟨by omega, by omega⟩
  rw [get16_nat (by rw [L_length]; exact h), show has s.size (k : Int) 2 = true from by simp [has]; omega] at c
  exact c
theorem rn_Word (s : ByteArray) (k : Nat) (w : World) (hs : s.size ≤ 140737488351232) (h : k + 2 ≤ s.size) :
    Calls Tryz.prog 55 #[.string s, .int .i64 k] w (Ret (.int .u16 (be16 (L s) k)) w) := by
  have c := fun w => r_Get16_in s k w hs h
  obtain ⟨x, hx⟩ : ∃ x, x = be16 (L s) k := ⟨_, rfl⟩
  rw [← hx] at c ⊢
  have C := hide c
  clear c hx
  go_enter Tryz.func55, Tryz.ntmps55
  go_wp2_with fail
  (with_reducible refine (C.out _).mono ?_)
  rintro e w1 ⟨rfl, b1⟩
  go_wp2_with fail
  go_ret
  exact ⟨rfl, (by (repeat' (first | with_reducible exact b1 | with_reducible exact Below.refl _ _ | with_reducible refine Below.setCell ?_ (by first | exact Nat.le_refl _ | (dsimp only; omega)) _ | with_reducible refine bstep ?_ (fresh_below _ _) | with_reducible refine Below.drew ?_)))⟩
theorem rn_With (s : ByteArray) (k : Nat) (p : ByteArray) (w : World) (hs : s.size ≤ 140737488351232) (h : k + p.size ≤ s.size) :
    Calls Tryz.prog 52 #[.string s, .int .i64 k, .string p] w (Ret (.string (S ((L s).take k ++ (L p ++ (L s).drop (k + p.size))))) w) := by
  have c := fun w => r_With s (k : Int) p w hs (by omega) ⟨by omega, by omega⟩
  have hx : has s.size (k : Int) p.size = true := by simp [has]; omega
  rw [show putAt (L s) (k : Int) (L p) = (L s).take k ++ (L p ++ (L s).drop (k + p.size)) from by unfold putAt; rw [L_length, L_length, if_pos hx]; rfl, hx] at c
  obtain ⟨x, hx⟩ : ∃ x, x = S ((L s).take k ++ (L p ++ (L s).drop (k + p.size))) := ⟨_, rfl⟩
  rw [← hx] at c ⊢
  have C := hide c
  clear c hx
  go_enter Tryz.func52, Tryz.ntmps52
  go_wp2_with fail
  (with_reducible refine (C.out _).mono ?_)
  rintro e w1 ⟨rfl, b1⟩
  go_wp2_with fail
  go_ret
  exact ⟨rfl, (by (repeat' (first | with_reducible exact b1 | with_reducible exact Below.refl _ _ | with_reducible refine Below.setCell ?_ (by first | exact Nat.le_refl _ | (dsimp only; omega)) _ | with_reducible refine bstep ?_ (fresh_below _ _) | with_reducible refine Below.drew ?_)))⟩

set_option maxRecDepth 100000 in
set_option maxHeartbeats 2000000 in
theorem rn_Pair (a b c d : Int) (w : World) (ha : 0 ≤ a ∧ a ≤ 4294967295) (hc : 0 ≤ c ∧ c ≤ 4294967295) :
    Calls Tryz.prog 53 #[.agg #[.int .u32 a, .int .u16 b, .int .u32 c, .int .u16 d]] w (Ret (.string (S (ipsOf a c))) w) := by
  have f1 := fun W => r_Put32 a W ha.1 ha.2
  have f2 := fun W => r_Put32 c W hc.1 hc.2
  have e3 : S (put32 a) ++ S (put32 c) = S (ipsOf a c) := by rw [S_append]; rfl
  have z3 : (S (put32 a)).size + (S (put32 c)).size ≤ 1000 := by rw [S_size, S_size]; simp [put32, put16_length]
  obtain ⟨s1, h1⟩ : ∃ s, s = S (put32 a) := ⟨_, rfl⟩
  obtain ⟨s2, h2⟩ : ∃ s, s = S (put32 c) := ⟨_, rfl⟩
  rw [← h1] at f1 e3 z3; rw [← h2] at f2 e3 z3; rw [← e3]
  have z4 : (s1 ++ s2).size ≤ 1000 := by rw [ByteArray.size_append]; exact z3
  have F1 := hide f1; have F2 := hide f2
  clear f1 f2 e3 h1 h2
  go_enter Tryz.func53, Tryz.ntmps53
  have d0 := Cells.new w #[.int .u32 a, .int .u16 b, .int .u32 c, .int .u16 d] 33
  go_wp2_with fail
  have SK := hide (fun (zX zY : World) (zh : (Below w.heap.size w zX ∧ zX.cell? ⟨w.heap.size, 0, none⟩ = some (.int .u32 a) ∧ zX.cell? ⟨w.heap.size, 2, none⟩ = some (.int .u32 c) ∧ True)) (zb : Below zX.heap.size zX zY) => (show (Below w.heap.size w zY ∧ zY.cell? ⟨w.heap.size, 0, none⟩ = some (.int .u32 a) ∧ zY.cell? ⟨w.heap.size, 2, none⟩ = some (.int .u32 c) ∧ True) from ⟨bstep zh.1 zb, cellAt zb zh.2.1, cellAt zb zh.2.2.1, trivial⟩))
  have FS := hide (fun (zX : World) (zh : (Below w.heap.size w zX ∧ zX.cell? ⟨w.heap.size, 0, none⟩ = some (.int .u32 a) ∧ zX.cell? ⟨w.heap.size, 2, none⟩ = some (.int .u32 c) ∧ True)) => zh.1)
  have GS := hide (fun (zX : World) (zh : (Below w.heap.size w zX ∧ zX.cell? ⟨w.heap.size, 0, none⟩ = some (.int .u32 a) ∧ zX.cell? ⟨w.heap.size, 2, none⟩ = some (.int .u32 c) ∧ True)) => zh)
  have hS0 : (Below w.heap.size w (w.alloc (.cells #[.int .u32 a, .int .u16 b, .int .u32 c, .int .u16 d] 33)) ∧ (w.alloc (.cells #[.int .u32 a, .int .u16 b, .int .u32 c, .int .u16 d] 33)).cell? ⟨w.heap.size, 0, none⟩ = some (.int .u32 a) ∧ (w.alloc (.cells #[.int .u32 a, .int .u16 b, .int .u32 c, .int .u16 d] 33)).cell? ⟨w.heap.size, 2, none⟩ = some (.int .u32 c) ∧ True) := ⟨(by (repeat' (first | with_reducible exact Below.refl _ _ | with_reducible refine Below.setCell ?_ (by first | exact Nat.le_refl _ | (dsimp only; omega)) _ | with_reducible refine bstep ?_ (fresh_below _ _) | with_reducible refine Below.drew ?_))), d0.at_ 0, d0.at_ 2, trivial⟩
  go_region_held_law (fun w' => (Below w.heap.size w w' ∧ w'.cell? ⟨w.heap.size, 0, none⟩ = some (.int .u32 a) ∧ w'.cell? ⟨w.heap.size, 2, none⟩ = some (.int .u32 c) ∧ True)) (first | assumption | exact SK.out _ _ hS0 (Below.refl _ _).drew | exact SK.out _ _ hS0 (fresh_below _ _).drew | exact SK.out _ _ (by assumption) (fresh_below _ _) | (refine SK.out _ _ ?_ (by assumption); assumption))
    (first | (go_at_call 100; (with_reducible refine (F1.out _).mono ?_); rintro e wq ⟨rfl, bq⟩) | (go_at_call 100; (with_reducible refine (F2.out _).mono ?_); rintro e wq ⟨rfl, bq⟩))
  all_goals
    go_wp2
    go_ret
    exact ⟨rfl, (by first | exact FS.out _ (by assumption) | exact bstep (FS.out _ (by assumption)) (fresh_below _ _) | exact bstep (bstep (FS.out _ (by assumption)) (fresh_below _ _)) (fresh_below _ _))⟩

set_option maxHeartbeats 1000000 in
theorem rn_query (s : ByteArray) (id : Int) (w : World) (hs : s.size ≤ 140737488351232) (h : 8 ≤ s.size) (hi : 0 ≤ id ∧ id ≤ 65535) :
    Calls Tryz.prog 21 #[.string s, .int .u16 id] w (Ret (.string (S (queryOf (L s) id))) w) := by
  have b2 := be16_bd (L s) 2
  have b4 := be16_bd (L s) 4
  have hu := upd_bd b2 b4 hi
  have hl : 8 ≤ (L s).length := by rw [L_length]; exact h
  have z1 : (S (lay (L s) 4 id)).size = s.size := by rw [S_size, lay_length (by omega), L_length]
  have c1 := fun w => rn_Word s 2 w hs (by omega)
  have c2 := fun w => rn_Word s 4 w hs (by omega)
  have c3 := fun w => r_Update (be16 (L s) 2) (be16 (L s) 4) id w b2 b4 hi
  have c4 := fun w => r_Put16 id w hi.1 hi.2
  have c5 := fun w => rn_With s 4 (S (put16 id)) w hs (by rw [S_size, put16_length]; omega)
  have c6 := fun w => r_Put16 (upd (be16 (L s) 2) (be16 (L s) 4) id) w hu.1 hu.2
  have c7 := fun w => rn_With (S (lay (L s) 4 id)) 2 (S (put16 (upd (be16 (L s) 2) (be16 (L s) 4) id))) w (by omega) (by rw [S_size (put16 _), put16_length]; omega)
  rw [show (L s).take 4 ++ (L (S (put16 id)) ++ (L s).drop (4 + (S (put16 id)).size)) = lay (L s) 4 id from by rw [← List.append_assoc]; rfl] at c5
  rw [show (L (S (lay (L s) 4 id))).take 2 ++ (L (S (put16 (upd (be16 (L s) 2) (be16 (L s) 4) id))) ++ (L (S (lay (L s) 4 id))).drop (2 + (S (put16 (upd (be16 (L s) 2) (be16 (L s) 4) id))).size)) = queryOf (L s) id from by rw [L_S, ← List.append_assoc]; rfl] at c7
  rw [show ((2 : Nat) : Int) = 2 from rfl] at c1 c7
  rw [show ((4 : Nat) : Int) = 4 from rfl] at c2 c5
  obtain ⟨x, hx⟩ : ∃ x, x = be16 (L s) 2 := ⟨_, rfl⟩
  obtain ⟨y, hy⟩ : ∃ y, y = be16 (L s) 4 := ⟨_, rfl⟩
  rw [← hx] at c1 c3 c6 c7; rw [← hy] at c2 c3 c6 c7
  obtain ⟨u, hu2⟩ : ∃ u, u = upd x y id := ⟨_, rfl⟩
  rw [← hu2] at c3 c6 c7
  obtain ⟨p1, hp1⟩ : ∃ p, p = S (put16 id) := ⟨_, rfl⟩
  obtain ⟨p2, hp2⟩ : ∃ p, p = S (put16 u) := ⟨_, rfl⟩
  obtain ⟨t1, ht1⟩ : ∃ p, p = S (lay (L s) 4 id) := ⟨_, rfl⟩
  obtain ⟨t2, ht2⟩ : ∃ p, p = S (queryOf (L s) id) := ⟨_, rfl⟩
  rw [← hp1] at c4 c5; rw [← hp2] at c6 c7; rw [← ht1] at c5 c7; rw [← ht2] at c7 ⊢
  have C1 := hide c1; have C2 := hide c2; have C3 := hide c3; have C4 := hide c4; have C5 := hide c5; have C6 := hide c6; have C7 := hide c7
  clear c1 c2 c3 c4 c5 c6 c7 hx hy hu2 hp1 hp2 ht1 ht2 hu b2 b4 hl z1
  go_enter Tryz.func21, Tryz.ntmps21
  go_wp2_with fail
  (with_reducible refine (C1.out _).mono ?_)
  rintro e w1 ⟨rfl, b1⟩
  replace b1 : Below w.heap.size w w1 := by (refine bstep ?_ b1); (repeat' (first | with_reducible exact Below.refl _ _ | with_reducible refine Below.setCell ?_ (by first | exact Nat.le_refl _ | (dsimp only; omega)) _ | with_reducible refine bstep ?_ (fresh_below _ _) | with_reducible refine Below.drew ?_))
  have z1 : w.heap.size ≤ w1.heap.size := b1.size
  go_wp2_with fail
  (with_reducible refine (C2.out _).mono ?_)
  rintro e w2 ⟨rfl, b2⟩
  replace b2 : Below w.heap.size w w2 := by (refine bstep ?_ b2); (repeat' (first | with_reducible exact b1 | with_reducible exact Below.refl _ _ | with_reducible refine Below.setCell ?_ (by first | exact Nat.le_refl _ | (dsimp only; omega)) _ | with_reducible refine bstep ?_ (fresh_below _ _) | with_reducible refine Below.drew ?_))
  have z2 : w.heap.size ≤ w2.heap.size := b2.size
  go_wp2_with fail
  (with_reducible refine (C3.out _).mono ?_)
  rintro e w3 ⟨rfl, rfl⟩
  go_wp2_with fail
  (with_reducible refine (C4.out _).mono ?_)
  rintro e w4 ⟨rfl, b4⟩
  replace b4 : Below w.heap.size w w4 := by (refine bstep ?_ b4); (repeat' (first | with_reducible exact b2 | with_reducible exact Below.refl _ _ | with_reducible refine Below.setCell ?_ (by first | exact Nat.le_refl _ | (dsimp only; omega)) _ | with_reducible refine bstep ?_ (fresh_below _ _) | with_reducible refine Below.drew ?_))
  have z4 : w.heap.size ≤ w4.heap.size := b4.size
  go_wp2_with fail
  (with_reducible refine (C5.out _).mono ?_)
  rintro e w5 ⟨rfl, b5⟩
  replace b5 : Below w.heap.size w w5 := by (refine bstep ?_ b5); (repeat' (first | with_reducible exact b4 | with_reducible exact Below.refl _ _ | with_reducible refine Below.setCell ?_ (by first | exact Nat.le_refl _ | (dsimp only; omega)) _ | with_reducible refine bstep ?_ (fresh_below _ _) | with_reducible refine Below.drew ?_))
  have z5 : w.heap.size ≤ w5.heap.size := b5.size
  go_wp2_with fail
  (with_reducible refine (C6.out _).mono ?_)
  rintro e w6 ⟨rfl, b6⟩
  replace b6 : Below w.heap.size w w6 := by (refine bstep ?_ b6); (repeat' (first | with_reducible exact b5 | with_reducible exact Below.refl _ _ | with_reducible refine Below.setCell ?_ (by first | exact Nat.le_refl _ | (dsimp only; omega)) _ | with_reducible refine bstep ?_ (fresh_below _ _) | with_reducible refine Below.drew ?_))
  have z6 : w.heap.size ≤ w6.heap.size := b6.size
  go_wp2_with fail
  (with_reducible refine (C7.out _).mono ?_)
  rintro e w7 ⟨rfl, b7⟩
  replace b7 : Below w.heap.size w w7 := by (refine bstep ?_ b7); (repeat' (first | with_reducible exact b6 | with_reducible exact Below.refl _ _ | with_reducible refine Below.setCell ?_ (by first | exact Nat.le_refl _ | (dsimp only; omega)) _ | with_reducible refine bstep ?_ (fresh_below _ _) | with_reducible refine Below.drew ?_))
  have z7 : w.heap.size ≤ w7.heap.size := b7.size
  go_wp2_with fail
  go_ret
  exact ⟨rfl, (by (repeat' (first | with_reducible exact b7 | with_reducible exact Below.refl _ _ | with_reducible refine Below.setCell ?_ (by first | exact Nat.le_refl _ | (dsimp only; omega)) _ | with_reducible refine bstep ?_ (fresh_below _ _) | with_reducible refine Below.drew ?_)))⟩
end Go.Proofs.YtpidgmamollmgaaGreatDoor
end
