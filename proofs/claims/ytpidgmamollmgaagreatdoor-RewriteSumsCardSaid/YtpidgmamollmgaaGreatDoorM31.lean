/- Several texts of this claim, one behind the other. -/
import Derived.Test.YtpidgmamollmgaaGreatDoorM25
import Derived.Test.YtpidgmamollmgaaGreatDoorM27
import Derived.Test.YtpidgmamollmgaaGreatDoorM30

section
/- The chapter's examples of rewrite. -/
set_option linter.unusedVariables false
set_option linter.unusedSimpArgs false
namespace Go.Proofs.YtpidgmamollmgaaGreatDoor
open Go.RowKit Go.Maps
attribute [local go_sem] Oper.semAt_some

theorem seen_eq {x : Seen} {p a b c d k f l : Int} {q : Bool} (h : x.t.p = p ∧ x.t.a = a ∧ x.t.b = b ∧ x.t.c = c ∧ x.t.d = d ∧ x.k = k ∧ x.f = f ∧ x.q = q ∧ x.l = l) : x = ⟨⟨p, a, b, c, d⟩, k, f, q, l⟩ := by
  obtain ⟨⟨x0, x1, x2, x3, x4⟩, x5, x6, x7, x8⟩ := x
  simp only at h
  obtain ⟨rfl, rfl, rfl, rfl, rfl, rfl, rfl, rfl, rfl⟩ := h
  rfl
theorem ex_load1 (w : World) : Calls Tryz.prog 28 #[.agg #[.int .u8 17, .int .u32 167772161, .int .u16 5, .int .u32 16909060, .int .u16 53], .int .u8 0, .string { data := #[113] }] w (Ret (.string { data := #[0, 5, 0, 53, 0, 9, 128, 155, 113] }) w) := by
  have c1 := fun W => r5_Put 5 53 0 0 { data := #[113] } W (by decide) (by decide) (by decide) (by decide)
  rw [show S (udpWords 5 53 ((8 + ({ data := #[113] } : ByteArray).size) % 65536) 0 ++ L { data := #[113] }) = ({ data := #[0, 5, 0, 53, 0, 9, 0, 0, 113] } : ByteArray) from by decide +kernel] at c1
  have c2 := fun W => r5_Seal 167772161 16909060 { data := #[0, 5, 0, 53, 0, 9, 0, 0, 113] } W (by decide) (by decide) (by decide)
  rw [show S (udpSeal 167772161 16909060 (L { data := #[0, 5, 0, 53, 0, 9, 0, 0, 113] })) = ({ data := #[0, 5, 0, 53, 0, 9, 128, 155, 113] } : ByteArray) from by decide +kernel] at c2
  exact load_udp 167772161 5 16909060 53 0 { data := #[113] } { data := #[0, 5, 0, 53, 0, 9, 0, 0, 113] } { data := #[0, 5, 0, 53, 0, 9, 128, 155, 113] } w c1 c2
theorem ex_load3 (w : World) : Calls Tryz.prog 28 #[.agg #[.int .u8 1, .int .u32 167772161, .int .u16 7, .int .u32 16909060, .int .u16 0], .int .u8 0, .string { data := #[113] }] w (Ret (.string { data := #[8, 0, 134, 247, 0, 7, 0, 1, 113] }) w) := by
  have c1 := fun W => r7_WithID ⟨8, 0, 0, { data := #[0, 0, 0, 1] }, { data := #[113] }⟩ 7 W (by refine ⟨?_, ?_, ?_, ?_, ?_⟩ <;> decide) (by decide)
  rw [show (msgID ⟨8, 0, 0, { data := #[0, 0, 0, 1] }, { data := #[113] }⟩ 7).r = ({ data := #[0, 7, 0, 1] } : ByteArray) from by decide +kernel] at c1
  have c3 := fun W => r7_Put_yes ⟨8, 0, 0, { data := #[0, 7, 0, 1] }, { data := #[113] }⟩ W (by refine ⟨?_, ?_, ?_, ?_, ?_⟩ <;> decide) (by decide)
  rw [show S (msgPut ⟨8, 0, 0, { data := #[0, 7, 0, 1] }, { data := #[113] }⟩) = ({ data := #[8, 0, 0, 0, 0, 7, 0, 1, 113] } : ByteArray) from by decide +kernel] at c3
  have c4 := fun W => r7_Seal { data := #[8, 0, 0, 0, 0, 7, 0, 1, 113] } W (by decide)
  rw [show S (icmpSeal (L { data := #[8, 0, 0, 0, 0, 7, 0, 1, 113] })) = ({ data := #[8, 0, 134, 247, 0, 7, 0, 1, 113] } : ByteArray) from by decide +kernel] at c4
  exact load_ask 167772161 7 16909060 0 { data := #[113] } { data := #[8, 0, 0, 0, 0, 7, 0, 1, 113] } { data := #[8, 0, 134, 247, 0, 7, 0, 1, 113] } 8 0 0 0 0 0 { data := #[0, 7, 0, 1] } { data := #[113] } { data := #[113] } { data := #[113] } w c1 c3 c4
theorem ex_load4 (w : World) : Calls Tryz.prog 28 #[.agg #[.int .u8 1, .int .u32 167772161, .int .u16 0, .int .u32 16909060, .int .u16 7], .int .u8 0, .string { data := #[113] }] w (Ret (.string { data := #[0, 0, 142, 247, 0, 7, 0, 1, 113] }) w) := by
  have c1 := fun W => r7_WithID ⟨8, 0, 0, { data := #[0, 0, 0, 1] }, { data := #[113] }⟩ 0 W (by refine ⟨?_, ?_, ?_, ?_, ?_⟩ <;> decide) (by decide)
  rw [show (msgID ⟨8, 0, 0, { data := #[0, 0, 0, 1] }, { data := #[113] }⟩ 0).r = ({ data := #[0, 0, 0, 1] } : ByteArray) from by decide +kernel] at c1
  have c2 := fun W => r7_WithID ⟨0, 0, 0, { data := #[0, 0, 0, 1] }, { data := #[113] }⟩ 7 W (by refine ⟨?_, ?_, ?_, ?_, ?_⟩ <;> decide) (by decide)
  rw [show (msgID ⟨0, 0, 0, { data := #[0, 0, 0, 1] }, { data := #[113] }⟩ 7).r = ({ data := #[0, 7, 0, 1] } : ByteArray) from by decide +kernel] at c2
  have c3 := fun W => r7_Put_yes ⟨0, 0, 0, { data := #[0, 7, 0, 1] }, { data := #[113] }⟩ W (by refine ⟨?_, ?_, ?_, ?_, ?_⟩ <;> decide) (by decide)
  rw [show S (msgPut ⟨0, 0, 0, { data := #[0, 7, 0, 1] }, { data := #[113] }⟩) = ({ data := #[0, 0, 0, 0, 0, 7, 0, 1, 113] } : ByteArray) from by decide +kernel] at c3
  have c4 := fun W => r7_Seal { data := #[0, 0, 0, 0, 0, 7, 0, 1, 113] } W (by decide)
  rw [show S (icmpSeal (L { data := #[0, 0, 0, 0, 0, 7, 0, 1, 113] })) = ({ data := #[0, 0, 142, 247, 0, 7, 0, 1, 113] } : ByteArray) from by decide +kernel] at c4
  exact load_told 167772161 16909060 7 0 { data := #[113] } { data := #[0, 0, 0, 0, 0, 7, 0, 1, 113] } { data := #[0, 0, 142, 247, 0, 7, 0, 1, 113] } 8 0 0 0 0 0 { data := #[0, 0, 0, 1] } { data := #[113] } { data := #[0, 7, 0, 1] } { data := #[113] } w (by decide) c1 c2 c3 c4
theorem ex_made1 (w : World) : Calls Tryz.prog 11 #[.agg #[.int .u8 17, .int .u32 167772161, .int .u16 5, .int .u32 16909060, .int .u16 53], .int .u8 0, .int .u8 64, .string { data := #[113] }] w (Ret (.string { data := #[69, 0, 0, 29, 0, 0, 0, 0, 64, 17, 108, 202, 10, 0, 0, 1, 1, 2, 3, 4, 0, 5, 0, 53, 0, 9, 128, 155, 113] }) w) := by
  have c2 := fun W => r4_Put 0 0 64 17 167772161 16909060 false { data := #[] } { data := #[0, 5, 0, 53, 0, 9, 128, 155, 113] } W (by refine ⟨?_, ?_, ?_, ?_, ?_, ?_, ?_⟩ <;> decide) (by decide)
  rw [show ipText (Hd.mk 0 0 false 64 17 167772161 16909060 { data := #[] }) { data := #[0, 5, 0, 53, 0, 9, 128, 155, 113] } = ({ data := #[69, 0, 0, 29, 0, 0, 0, 0, 64, 17, 108, 202, 10, 0, 0, 1, 1, 2, 3, 4, 0, 5, 0, 53, 0, 9, 128, 155, 113] } : ByteArray) from by decide +kernel, show ipErr (Hd.mk 0 0 false 64 17 167772161 16909060 { data := #[] }) { data := #[0, 5, 0, 53, 0, 9, 128, 155, 113] } = 0 from by decide +kernel] at c2
  exact made 17 167772161 5 16909060 53 0 64 { data := #[113] } { data := #[0, 5, 0, 53, 0, 9, 128, 155, 113] } { data := #[69, 0, 0, 29, 0, 0, 0, 0, 64, 17, 108, 202, 10, 0, 0, 1, 1, 2, 3, 4, 0, 5, 0, 53, 0, 9, 128, 155, 113] } w (fun W => ex_load1 W) c2
theorem ex_made2 (w : World) : Calls Tryz.prog 11 #[.agg #[.int .u8 17, .int .u32 167772161, .int .u16 5, .int .u32 16909060, .int .u16 53], .int .u8 0, .int .u8 1, .string { data := #[113] }] w (Ret (.string { data := #[69, 0, 0, 29, 0, 0, 0, 0, 1, 17, 171, 202, 10, 0, 0, 1, 1, 2, 3, 4, 0, 5, 0, 53, 0, 9, 128, 155, 113] }) w) := by
  have c2 := fun W => r4_Put 0 0 1 17 167772161 16909060 false { data := #[] } { data := #[0, 5, 0, 53, 0, 9, 128, 155, 113] } W (by refine ⟨?_, ?_, ?_, ?_, ?_, ?_, ?_⟩ <;> decide) (by decide)
  rw [show ipText (Hd.mk 0 0 false 1 17 167772161 16909060 { data := #[] }) { data := #[0, 5, 0, 53, 0, 9, 128, 155, 113] } = ({ data := #[69, 0, 0, 29, 0, 0, 0, 0, 1, 17, 171, 202, 10, 0, 0, 1, 1, 2, 3, 4, 0, 5, 0, 53, 0, 9, 128, 155, 113] } : ByteArray) from by decide +kernel, show ipErr (Hd.mk 0 0 false 1 17 167772161 16909060 { data := #[] }) { data := #[0, 5, 0, 53, 0, 9, 128, 155, 113] } = 0 from by decide +kernel] at c2
  exact made 17 167772161 5 16909060 53 0 1 { data := #[113] } { data := #[0, 5, 0, 53, 0, 9, 128, 155, 113] } { data := #[69, 0, 0, 29, 0, 0, 0, 0, 1, 17, 171, 202, 10, 0, 0, 1, 1, 2, 3, 4, 0, 5, 0, 53, 0, 9, 128, 155, 113] } w (fun W => ex_load1 W) c2
theorem ex_made3 (w : World) : Calls Tryz.prog 11 #[.agg #[.int .u8 1, .int .u32 167772161, .int .u16 7, .int .u32 16909060, .int .u16 0], .int .u8 0, .int .u8 64, .string { data := #[113] }] w (Ret (.string { data := #[69, 0, 0, 29, 0, 0, 0, 0, 64, 1, 108, 218, 10, 0, 0, 1, 1, 2, 3, 4, 8, 0, 134, 247, 0, 7, 0, 1, 113] }) w) := by
  have c2 := fun W => r4_Put 0 0 64 1 167772161 16909060 false { data := #[] } { data := #[8, 0, 134, 247, 0, 7, 0, 1, 113] } W (by refine ⟨?_, ?_, ?_, ?_, ?_, ?_, ?_⟩ <;> decide) (by decide)
  rw [show ipText (Hd.mk 0 0 false 64 1 167772161 16909060 { data := #[] }) { data := #[8, 0, 134, 247, 0, 7, 0, 1, 113] } = ({ data := #[69, 0, 0, 29, 0, 0, 0, 0, 64, 1, 108, 218, 10, 0, 0, 1, 1, 2, 3, 4, 8, 0, 134, 247, 0, 7, 0, 1, 113] } : ByteArray) from by decide +kernel, show ipErr (Hd.mk 0 0 false 64 1 167772161 16909060 { data := #[] }) { data := #[8, 0, 134, 247, 0, 7, 0, 1, 113] } = 0 from by decide +kernel] at c2
  exact made 1 167772161 7 16909060 0 0 64 { data := #[113] } { data := #[8, 0, 134, 247, 0, 7, 0, 1, 113] } { data := #[69, 0, 0, 29, 0, 0, 0, 0, 64, 1, 108, 218, 10, 0, 0, 1, 1, 2, 3, 4, 8, 0, 134, 247, 0, 7, 0, 1, 113] } w (fun W => ex_load3 W) c2
theorem ex_made4 (w : World) : Calls Tryz.prog 11 #[.agg #[.int .u8 1, .int .u32 167772161, .int .u16 0, .int .u32 16909060, .int .u16 7], .int .u8 0, .int .u8 64, .string { data := #[113] }] w (Ret (.string { data := #[69, 0, 0, 29, 0, 0, 0, 0, 64, 1, 108, 218, 10, 0, 0, 1, 1, 2, 3, 4, 0, 0, 142, 247, 0, 7, 0, 1, 113] }) w) := by
  have c2 := fun W => r4_Put 0 0 64 1 167772161 16909060 false { data := #[] } { data := #[0, 0, 142, 247, 0, 7, 0, 1, 113] } W (by refine ⟨?_, ?_, ?_, ?_, ?_, ?_, ?_⟩ <;> decide) (by decide)
  rw [show ipText (Hd.mk 0 0 false 64 1 167772161 16909060 { data := #[] }) { data := #[0, 0, 142, 247, 0, 7, 0, 1, 113] } = ({ data := #[69, 0, 0, 29, 0, 0, 0, 0, 64, 1, 108, 218, 10, 0, 0, 1, 1, 2, 3, 4, 0, 0, 142, 247, 0, 7, 0, 1, 113] } : ByteArray) from by decide +kernel, show ipErr (Hd.mk 0 0 false 64 1 167772161 16909060 { data := #[] }) { data := #[0, 0, 142, 247, 0, 7, 0, 1, 113] } = 0 from by decide +kernel] at c2
  exact made 1 167772161 0 16909060 7 0 64 { data := #[113] } { data := #[0, 0, 142, 247, 0, 7, 0, 1, 113] } { data := #[69, 0, 0, 29, 0, 0, 0, 0, 64, 1, 108, 218, 10, 0, 0, 1, 1, 2, 3, 4, 0, 0, 142, 247, 0, 7, 0, 1, 113] } w (fun W => ex_load4 W) c2
theorem ex_apply1 (w : World) (K : Kinds w) : Calls Tryz.prog 6 #[.string { data := #[69, 0, 0, 29, 0, 0, 0, 0, 64, 17, 108, 202, 10, 0, 0, 1, 1, 2, 3, 4, 0, 5, 0, 53, 0, 9, 128, 155, 113] }, .agg #[.int .u32 84281096, .int .u16 9000, .int .u32 16909060, .int .u16 53]] w (Ret (.tuple #[.string { data := #[69, 0, 0, 29, 0, 0, 0, 0, 63, 17, 107, 189, 5, 6, 7, 8, 1, 2, 3, 4, 35, 40, 0, 53, 0, 9, 91, 107, 113] }, .int .i64 0]) w) := by
  have c := rw_Apply 84281096 9000 16909060 53 { data := #[69, 0, 0, 29, 0, 0, 0, 0, 64, 17, 108, 202, 10, 0, 0, 1, 1, 2, 3, 4, 0, 5, 0, 53, 0, 9, 128, 155, 113] } w K (by decide) (by decide) (by decide) (by decide) (by decide)
  rw [show rwOut { data := #[69, 0, 0, 29, 0, 0, 0, 0, 64, 17, 108, 202, 10, 0, 0, 1, 1, 2, 3, 4, 0, 5, 0, 53, 0, 9, 128, 155, 113] } 84281096 9000 16909060 53 = ({ data := #[69, 0, 0, 29, 0, 0, 0, 0, 63, 17, 107, 189, 5, 6, 7, 8, 1, 2, 3, 4, 35, 40, 0, 53, 0, 9, 91, 107, 113] } : ByteArray) from by decide +kernel, show rwWhy { data := #[69, 0, 0, 29, 0, 0, 0, 0, 64, 17, 108, 202, 10, 0, 0, 1, 1, 2, 3, 4, 0, 5, 0, 53, 0, 9, 128, 155, 113] } = 0 from by decide +kernel] at c
  exact c
theorem ex_apply2 (w : World) (K : Kinds w) : Calls Tryz.prog 6 #[.string { data := #[69, 0, 0, 29, 0, 0, 0, 0, 1, 17, 171, 202, 10, 0, 0, 1, 1, 2, 3, 4, 0, 5, 0, 53, 0, 9, 128, 155, 113] }, .agg #[.int .u32 84281096, .int .u16 9000, .int .u32 16909060, .int .u16 53]] w (Ret (.tuple #[.string { data := #[] }, .int .i64 8]) w) := by
  have c := rw_Apply 84281096 9000 16909060 53 { data := #[69, 0, 0, 29, 0, 0, 0, 0, 1, 17, 171, 202, 10, 0, 0, 1, 1, 2, 3, 4, 0, 5, 0, 53, 0, 9, 128, 155, 113] } w K (by decide) (by decide) (by decide) (by decide) (by decide)
  rw [show rwOut { data := #[69, 0, 0, 29, 0, 0, 0, 0, 1, 17, 171, 202, 10, 0, 0, 1, 1, 2, 3, 4, 0, 5, 0, 53, 0, 9, 128, 155, 113] } 84281096 9000 16909060 53 = ({ data := #[] } : ByteArray) from by decide +kernel, show rwWhy { data := #[69, 0, 0, 29, 0, 0, 0, 0, 1, 17, 171, 202, 10, 0, 0, 1, 1, 2, 3, 4, 0, 5, 0, 53, 0, 9, 128, 155, 113] } = 8 from by decide +kernel] at c
  exact c
theorem ex_apply0 (w : World) (K : Kinds w) : Calls Tryz.prog 6 #[.string { data := #[97, 98, 99] }, .agg #[.int .u32 84281096, .int .u16 9000, .int .u32 16909060, .int .u16 53]] w (Ret (.tuple #[.string { data := #[] }, .int .i64 1]) w) := by
  have c := rw_Apply 84281096 9000 16909060 53 { data := #[97, 98, 99] } w K (by decide) (by decide) (by decide) (by decide) (by decide)
  rw [show rwOut { data := #[97, 98, 99] } 84281096 9000 16909060 53 = ({ data := #[] } : ByteArray) from by decide +kernel, show rwWhy { data := #[97, 98, 99] } = 1 from by decide +kernel] at c
  exact c
theorem ex_apply3 (w : World) (K : Kinds w) : Calls Tryz.prog 6 #[.string { data := #[69, 0, 0, 29, 0, 0, 0, 0, 64, 1, 108, 218, 10, 0, 0, 1, 1, 2, 3, 4, 8, 0, 134, 247, 0, 7, 0, 1, 113] }, .agg #[.int .u32 84281096, .int .u16 9000, .int .u32 16909060, .int .u16 53]] w (Ret (.tuple #[.string { data := #[69, 0, 0, 29, 0, 0, 0, 0, 63, 1, 107, 205, 5, 6, 7, 8, 1, 2, 3, 4, 8, 0, 99, 214, 35, 40, 0, 1, 113] }, .int .i64 0]) w) := by
  have c := rw_Apply 84281096 9000 16909060 53 { data := #[69, 0, 0, 29, 0, 0, 0, 0, 64, 1, 108, 218, 10, 0, 0, 1, 1, 2, 3, 4, 8, 0, 134, 247, 0, 7, 0, 1, 113] } w K (by decide) (by decide) (by decide) (by decide) (by decide)
  rw [show rwOut { data := #[69, 0, 0, 29, 0, 0, 0, 0, 64, 1, 108, 218, 10, 0, 0, 1, 1, 2, 3, 4, 8, 0, 134, 247, 0, 7, 0, 1, 113] } 84281096 9000 16909060 53 = ({ data := #[69, 0, 0, 29, 0, 0, 0, 0, 63, 1, 107, 205, 5, 6, 7, 8, 1, 2, 3, 4, 8, 0, 99, 214, 35, 40, 0, 1, 113] } : ByteArray) from by decide +kernel, show rwWhy { data := #[69, 0, 0, 29, 0, 0, 0, 0, 64, 1, 108, 218, 10, 0, 0, 1, 1, 2, 3, 4, 8, 0, 134, 247, 0, 7, 0, 1, 113] } = 0 from by decide +kernel] at c
  exact c
theorem ex_apply4 (w : World) (K : Kinds w) : Calls Tryz.prog 6 #[.string { data := #[69, 0, 0, 29, 0, 0, 0, 0, 64, 1, 108, 218, 10, 0, 0, 1, 1, 2, 3, 4, 0, 0, 142, 247, 0, 7, 0, 1, 113] }, .agg #[.int .u32 84281096, .int .u16 9000, .int .u32 16909060, .int .u16 53]] w (Ret (.tuple #[.string { data := #[69, 0, 0, 29, 0, 0, 0, 0, 63, 1, 107, 205, 5, 6, 7, 8, 1, 2, 3, 4, 0, 0, 142, 201, 0, 53, 0, 1, 113] }, .int .i64 0]) w) := by
  have c := rw_Apply 84281096 9000 16909060 53 { data := #[69, 0, 0, 29, 0, 0, 0, 0, 64, 1, 108, 218, 10, 0, 0, 1, 1, 2, 3, 4, 0, 0, 142, 247, 0, 7, 0, 1, 113] } w K (by decide) (by decide) (by decide) (by decide) (by decide)
  rw [show rwOut { data := #[69, 0, 0, 29, 0, 0, 0, 0, 64, 1, 108, 218, 10, 0, 0, 1, 1, 2, 3, 4, 0, 0, 142, 247, 0, 7, 0, 1, 113] } 84281096 9000 16909060 53 = ({ data := #[69, 0, 0, 29, 0, 0, 0, 0, 63, 1, 107, 205, 5, 6, 7, 8, 1, 2, 3, 4, 0, 0, 142, 201, 0, 53, 0, 1, 113] } : ByteArray) from by decide +kernel, show rwWhy { data := #[69, 0, 0, 29, 0, 0, 0, 0, 64, 1, 108, 218, 10, 0, 0, 1, 1, 2, 3, 4, 0, 0, 142, 247, 0, 7, 0, 1, 113] } = 0 from by decide +kernel] at c
  exact c
theorem ex_of1 (w : World) (K : Kinds w) : Calls Tryz.prog 12 #[.string { data := #[69, 0, 0, 29, 0, 0, 0, 0, 63, 17, 107, 189, 5, 6, 7, 8, 1, 2, 3, 4, 35, 40, 0, 53, 0, 9, 91, 107, 113] }] w (Ret (.tuple #[.agg #[.int .u8 17, .int .u32 84281096, .int .u16 9000, .int .u32 16909060, .int .u16 53, .int .i64 2, .int .u8 0, .bool false, .int .u8 63], .int .i64 0]) w) := by
  have c := tu_Of { data := #[69, 0, 0, 29, 0, 0, 0, 0, 63, 17, 107, 189, 5, 6, 7, 8, 1, 2, 3, 4, 35, 40, 0, 53, 0, 9, 91, 107, 113] } w K (by decide)
  rw [seen_eq (x := seenOf { data := #[69, 0, 0, 29, 0, 0, 0, 0, 63, 17, 107, 189, 5, 6, 7, 8, 1, 2, 3, 4, 35, 40, 0, 53, 0, 9, 91, 107, 113] }) (p := 17) (a := 84281096) (b := 9000) (c := 16909060) (d := 53) (k := 2) (f := 0) (q := false) (l := 63) (by decide +kernel), show seenWhy { data := #[69, 0, 0, 29, 0, 0, 0, 0, 63, 17, 107, 189, 5, 6, 7, 8, 1, 2, 3, 4, 35, 40, 0, 53, 0, 9, 91, 107, 113] } = 0 from by decide +kernel] at c
  exact c
theorem ex_of3 (w : World) (K : Kinds w) : Calls Tryz.prog 12 #[.string { data := #[69, 0, 0, 29, 0, 0, 0, 0, 63, 1, 107, 205, 5, 6, 7, 8, 1, 2, 3, 4, 8, 0, 99, 214, 35, 40, 0, 1, 113] }] w (Ret (.tuple #[.agg #[.int .u8 1, .int .u32 84281096, .int .u16 9000, .int .u32 16909060, .int .u16 0, .int .i64 2, .int .u8 0, .bool true, .int .u8 63], .int .i64 0]) w) := by
  have c := tu_Of { data := #[69, 0, 0, 29, 0, 0, 0, 0, 63, 1, 107, 205, 5, 6, 7, 8, 1, 2, 3, 4, 8, 0, 99, 214, 35, 40, 0, 1, 113] } w K (by decide)
  rw [seen_eq (x := seenOf { data := #[69, 0, 0, 29, 0, 0, 0, 0, 63, 1, 107, 205, 5, 6, 7, 8, 1, 2, 3, 4, 8, 0, 99, 214, 35, 40, 0, 1, 113] }) (p := 1) (a := 84281096) (b := 9000) (c := 16909060) (d := 0) (k := 2) (f := 0) (q := true) (l := 63) (by decide +kernel), show seenWhy { data := #[69, 0, 0, 29, 0, 0, 0, 0, 63, 1, 107, 205, 5, 6, 7, 8, 1, 2, 3, 4, 8, 0, 99, 214, 35, 40, 0, 1, 113] } = 0 from by decide +kernel] at c
  exact c
theorem ex_of4 (w : World) (K : Kinds w) : Calls Tryz.prog 12 #[.string { data := #[69, 0, 0, 29, 0, 0, 0, 0, 63, 1, 107, 205, 5, 6, 7, 8, 1, 2, 3, 4, 0, 0, 142, 201, 0, 53, 0, 1, 113] }] w (Ret (.tuple #[.agg #[.int .u8 1, .int .u32 84281096, .int .u16 0, .int .u32 16909060, .int .u16 53, .int .i64 2, .int .u8 0, .bool false, .int .u8 63], .int .i64 0]) w) := by
  have c := tu_Of { data := #[69, 0, 0, 29, 0, 0, 0, 0, 63, 1, 107, 205, 5, 6, 7, 8, 1, 2, 3, 4, 0, 0, 142, 201, 0, 53, 0, 1, 113] } w K (by decide)
  rw [seen_eq (x := seenOf { data := #[69, 0, 0, 29, 0, 0, 0, 0, 63, 1, 107, 205, 5, 6, 7, 8, 1, 2, 3, 4, 0, 0, 142, 201, 0, 53, 0, 1, 113] }) (p := 1) (a := 84281096) (b := 0) (c := 16909060) (d := 53) (k := 2) (f := 0) (q := false) (l := 63) (by decide +kernel), show seenWhy { data := #[69, 0, 0, 29, 0, 0, 0, 0, 63, 1, 107, 205, 5, 6, 7, 8, 1, 2, 3, 4, 0, 0, 142, 201, 0, 53, 0, 1, 113] } = 0 from by decide +kernel] at c
  exact c

set_option maxRecDepth 100000 in
set_option maxHeartbeats 8000000 in
theorem turned (w : World) (hTb : Tabs w) : Calls Tryz.prog 5 #[] w (Ret (.bool true) w) := by
  have HK := hide hTb.1; have HTB := hide hTb
  have M1 := hide ex_made1; have M2 := hide ex_made2; have M3 := hide ex_made3; have M4 := hide ex_made4
  have P1 := hide ex_apply1; have P2 := hide ex_apply2; have P0 := hide ex_apply0; have P3 := hide ex_apply3; have P4 := hide ex_apply4
  have O1 := hide ex_of1; have O3 := hide ex_of3; have O4 := hide ex_of4
  have TX := hide tuple_text
  clear hTb
  go_enter Tryz.func5, Tryz.ntmps5
  have hT : Cells ((((w.alloc (.cells #[.int .u32 167772161, .int .u16 5] 26)).alloc (.cells #[.int .u32 16909060, .int .u16 53] 26)).alloc (.cells #[.int .u32 84281096, .int .u16 9000, .int .u32 16909060, .int .u16 53] 28)).alloc (.cells #[.int .u8 17, .int .u32 167772161, .int .u16 5, .int .u32 16909060, .int .u16 53] 36)) (w.heap.size + 1 + 1 + 1) #[.int .u8 17, .int .u32 167772161, .int .u16 5, .int .u32 16909060, .int .u16 53] 36 := by
    have := Cells.new (((w.alloc (.cells #[.int .u32 167772161, .int .u16 5] 26)).alloc (.cells #[.int .u32 16909060, .int .u16 53] 26)).alloc (.cells #[.int .u32 84281096, .int .u16 9000, .int .u32 16909060, .int .u16 53] 28)) #[.int .u8 17, .int .u32 167772161, .int .u16 5, .int .u32 16909060, .int .u16 53] 36
    rw [show (((w.alloc (.cells #[.int .u32 167772161, .int .u16 5] 26)).alloc (.cells #[.int .u32 16909060, .int .u16 53] 26)).alloc (.cells #[.int .u32 84281096, .int .u16 9000, .int .u32 16909060, .int .u16 53] 28)).heap.size = w.heap.size + 1 + 1 + 1 from by simp] at this
    exact this
  have hC : Cells ((((w.alloc (.cells #[.int .u32 167772161, .int .u16 5] 26)).alloc (.cells #[.int .u32 16909060, .int .u16 53] 26)).alloc (.cells #[.int .u32 84281096, .int .u16 9000, .int .u32 16909060, .int .u16 53] 28)).alloc (.cells #[.int .u8 17, .int .u32 167772161, .int .u16 5, .int .u32 16909060, .int .u16 53] 36)) (w.heap.size + 1 + 1) #[.int .u32 84281096, .int .u16 9000, .int .u32 16909060, .int .u16 53] 28 := by
    have := Cells.alloc (Cells.new ((w.alloc (.cells #[.int .u32 167772161, .int .u16 5] 26)).alloc (.cells #[.int .u32 16909060, .int .u16 53] 26)) #[.int .u32 84281096, .int .u16 9000, .int .u32 16909060, .int .u16 53] 28) (.cells #[.int .u8 17, .int .u32 167772161, .int .u16 5, .int .u32 16909060, .int .u16 53] 36)
    rw [show ((w.alloc (.cells #[.int .u32 167772161, .int .u16 5] 26)).alloc (.cells #[.int .u32 16909060, .int .u16 53] 26)).heap.size = w.heap.size + 1 + 1 from by simp] at this
    exact this
  have bZ : Below w.heap.size w ((((w.alloc (.cells #[.int .u32 167772161, .int .u16 5] 26)).alloc (.cells #[.int .u32 16909060, .int .u16 53] 26)).alloc (.cells #[.int .u32 84281096, .int .u16 9000, .int .u32 16909060, .int .u16 53] 28)).alloc (.cells #[.int .u8 17, .int .u32 167772161, .int .u16 5, .int .u32 16909060, .int .u16 53] 36)) := bstep (bstep (bstep (fresh_below _ _) (fresh_below _ _)) (fresh_below _ _)) (fresh_below _ _)
  have HT0 := hide hT; have HC0 := hide hC; have HZ := hide bZ
  clear hT hC bZ
  go_wp2_with fail
  generalize ((((w.alloc (.cells #[.int .u32 167772161, .int .u16 5] 26)).alloc (.cells #[.int .u32 16909060, .int .u16 53] 26)).alloc (.cells #[.int .u32 84281096, .int .u16 9000, .int .u32 16909060, .int .u16 53] 28)).alloc (.cells #[.int .u8 17, .int .u32 167772161, .int .u16 5, .int .u32 16909060, .int .u16 53] 36)) = wZ at *
  have hT := HT0.out; have hC := HC0.out; have bZ := HZ.out
  clear HT0 HC0 HZ
  have SK := hide (fun (zX zY : World) (zh : (Below w.heap.size w zX ∧ Cells zX (w.heap.size + 1 + 1 + 1) #[.int .u8 17, .int .u32 167772161, .int .u16 5, .int .u32 16909060, .int .u16 53] 36 ∧ zX.cell? ⟨w.heap.size + 1 + 1 + 1, 0, none⟩ = some (.int .u8 17) ∧ zX.cell? ⟨w.heap.size + 1 + 1 + 1, 1, none⟩ = some (.int .u32 167772161) ∧ zX.cell? ⟨w.heap.size + 1 + 1 + 1, 2, none⟩ = some (.int .u16 5) ∧ zX.cell? ⟨w.heap.size + 1 + 1 + 1, 3, none⟩ = some (.int .u32 16909060) ∧ zX.cell? ⟨w.heap.size + 1 + 1 + 1, 4, none⟩ = some (.int .u16 53) ∧ Cells zX (w.heap.size + 1 + 1) #[.int .u32 84281096, .int .u16 9000, .int .u32 16909060, .int .u16 53] 28 ∧ zX.cell? ⟨w.heap.size + 1 + 1, 0, none⟩ = some (.int .u32 84281096) ∧ zX.cell? ⟨w.heap.size + 1 + 1, 1, none⟩ = some (.int .u16 9000) ∧ zX.cell? ⟨w.heap.size + 1 + 1, 2, none⟩ = some (.int .u32 16909060) ∧ zX.cell? ⟨w.heap.size + 1 + 1, 3, none⟩ = some (.int .u16 53) ∧ True)) (zb : Below zX.heap.size zX zY) => (show (Below w.heap.size w zY ∧ Cells zY (w.heap.size + 1 + 1 + 1) #[.int .u8 17, .int .u32 167772161, .int .u16 5, .int .u32 16909060, .int .u16 53] 36 ∧ zY.cell? ⟨w.heap.size + 1 + 1 + 1, 0, none⟩ = some (.int .u8 17) ∧ zY.cell? ⟨w.heap.size + 1 + 1 + 1, 1, none⟩ = some (.int .u32 167772161) ∧ zY.cell? ⟨w.heap.size + 1 + 1 + 1, 2, none⟩ = some (.int .u16 5) ∧ zY.cell? ⟨w.heap.size + 1 + 1 + 1, 3, none⟩ = some (.int .u32 16909060) ∧ zY.cell? ⟨w.heap.size + 1 + 1 + 1, 4, none⟩ = some (.int .u16 53) ∧ Cells zY (w.heap.size + 1 + 1) #[.int .u32 84281096, .int .u16 9000, .int .u32 16909060, .int .u16 53] 28 ∧ zY.cell? ⟨w.heap.size + 1 + 1, 0, none⟩ = some (.int .u32 84281096) ∧ zY.cell? ⟨w.heap.size + 1 + 1, 1, none⟩ = some (.int .u16 9000) ∧ zY.cell? ⟨w.heap.size + 1 + 1, 2, none⟩ = some (.int .u32 16909060) ∧ zY.cell? ⟨w.heap.size + 1 + 1, 3, none⟩ = some (.int .u16 53) ∧ True) from ⟨bstep zh.1 zb, Cells.below zb zh.2.1, cellAt zb zh.2.2.1, cellAt zb zh.2.2.2.1, cellAt zb zh.2.2.2.2.1, cellAt zb zh.2.2.2.2.2.1, cellAt zb zh.2.2.2.2.2.2.1, Cells.below zb zh.2.2.2.2.2.2.2.1, cellAt zb zh.2.2.2.2.2.2.2.2.1, cellAt zb zh.2.2.2.2.2.2.2.2.2.1, cellAt zb zh.2.2.2.2.2.2.2.2.2.2.1, cellAt zb zh.2.2.2.2.2.2.2.2.2.2.2.1, trivial⟩))
  have FS := hide (fun (zX : World) (zh : (Below w.heap.size w zX ∧ Cells zX (w.heap.size + 1 + 1 + 1) #[.int .u8 17, .int .u32 167772161, .int .u16 5, .int .u32 16909060, .int .u16 53] 36 ∧ zX.cell? ⟨w.heap.size + 1 + 1 + 1, 0, none⟩ = some (.int .u8 17) ∧ zX.cell? ⟨w.heap.size + 1 + 1 + 1, 1, none⟩ = some (.int .u32 167772161) ∧ zX.cell? ⟨w.heap.size + 1 + 1 + 1, 2, none⟩ = some (.int .u16 5) ∧ zX.cell? ⟨w.heap.size + 1 + 1 + 1, 3, none⟩ = some (.int .u32 16909060) ∧ zX.cell? ⟨w.heap.size + 1 + 1 + 1, 4, none⟩ = some (.int .u16 53) ∧ Cells zX (w.heap.size + 1 + 1) #[.int .u32 84281096, .int .u16 9000, .int .u32 16909060, .int .u16 53] 28 ∧ zX.cell? ⟨w.heap.size + 1 + 1, 0, none⟩ = some (.int .u32 84281096) ∧ zX.cell? ⟨w.heap.size + 1 + 1, 1, none⟩ = some (.int .u16 9000) ∧ zX.cell? ⟨w.heap.size + 1 + 1, 2, none⟩ = some (.int .u32 16909060) ∧ zX.cell? ⟨w.heap.size + 1 + 1, 3, none⟩ = some (.int .u16 53) ∧ True)) => zh.1)
  have GS := hide (fun (zX : World) (zh : (Below w.heap.size w zX ∧ Cells zX (w.heap.size + 1 + 1 + 1) #[.int .u8 17, .int .u32 167772161, .int .u16 5, .int .u32 16909060, .int .u16 53] 36 ∧ zX.cell? ⟨w.heap.size + 1 + 1 + 1, 0, none⟩ = some (.int .u8 17) ∧ zX.cell? ⟨w.heap.size + 1 + 1 + 1, 1, none⟩ = some (.int .u32 167772161) ∧ zX.cell? ⟨w.heap.size + 1 + 1 + 1, 2, none⟩ = some (.int .u16 5) ∧ zX.cell? ⟨w.heap.size + 1 + 1 + 1, 3, none⟩ = some (.int .u32 16909060) ∧ zX.cell? ⟨w.heap.size + 1 + 1 + 1, 4, none⟩ = some (.int .u16 53) ∧ Cells zX (w.heap.size + 1 + 1) #[.int .u32 84281096, .int .u16 9000, .int .u32 16909060, .int .u16 53] 28 ∧ zX.cell? ⟨w.heap.size + 1 + 1, 0, none⟩ = some (.int .u32 84281096) ∧ zX.cell? ⟨w.heap.size + 1 + 1, 1, none⟩ = some (.int .u16 9000) ∧ zX.cell? ⟨w.heap.size + 1 + 1, 2, none⟩ = some (.int .u32 16909060) ∧ zX.cell? ⟨w.heap.size + 1 + 1, 3, none⟩ = some (.int .u16 53) ∧ True)) => zh)
  have hS0 : (Below w.heap.size w wZ ∧ Cells wZ (w.heap.size + 1 + 1 + 1) #[.int .u8 17, .int .u32 167772161, .int .u16 5, .int .u32 16909060, .int .u16 53] 36 ∧ wZ.cell? ⟨w.heap.size + 1 + 1 + 1, 0, none⟩ = some (.int .u8 17) ∧ wZ.cell? ⟨w.heap.size + 1 + 1 + 1, 1, none⟩ = some (.int .u32 167772161) ∧ wZ.cell? ⟨w.heap.size + 1 + 1 + 1, 2, none⟩ = some (.int .u16 5) ∧ wZ.cell? ⟨w.heap.size + 1 + 1 + 1, 3, none⟩ = some (.int .u32 16909060) ∧ wZ.cell? ⟨w.heap.size + 1 + 1 + 1, 4, none⟩ = some (.int .u16 53) ∧ Cells wZ (w.heap.size + 1 + 1) #[.int .u32 84281096, .int .u16 9000, .int .u32 16909060, .int .u16 53] 28 ∧ wZ.cell? ⟨w.heap.size + 1 + 1, 0, none⟩ = some (.int .u32 84281096) ∧ wZ.cell? ⟨w.heap.size + 1 + 1, 1, none⟩ = some (.int .u16 9000) ∧ wZ.cell? ⟨w.heap.size + 1 + 1, 2, none⟩ = some (.int .u32 16909060) ∧ wZ.cell? ⟨w.heap.size + 1 + 1, 3, none⟩ = some (.int .u16 53) ∧ True) := ⟨(by (repeat' (first | with_reducible exact bZ | with_reducible exact Below.refl _ _ | with_reducible refine Below.setCell ?_ (by first | exact Nat.le_refl _ | (dsimp only; omega)) _ | with_reducible refine bstep ?_ (fresh_below _ _) | with_reducible refine Below.drew ?_))), hT, hT.at_ 0, hT.at_ 1, hT.at_ 2, hT.at_ 3, hT.at_ 4, hC, hC.at_ 0, hC.at_ 1, hC.at_ 2, hC.at_ 3, trivial⟩
  go_region_held_law (fun w' => (Below w.heap.size w w' ∧ Cells w' (w.heap.size + 1 + 1 + 1) #[.int .u8 17, .int .u32 167772161, .int .u16 5, .int .u32 16909060, .int .u16 53] 36 ∧ w'.cell? ⟨w.heap.size + 1 + 1 + 1, 0, none⟩ = some (.int .u8 17) ∧ w'.cell? ⟨w.heap.size + 1 + 1 + 1, 1, none⟩ = some (.int .u32 167772161) ∧ w'.cell? ⟨w.heap.size + 1 + 1 + 1, 2, none⟩ = some (.int .u16 5) ∧ w'.cell? ⟨w.heap.size + 1 + 1 + 1, 3, none⟩ = some (.int .u32 16909060) ∧ w'.cell? ⟨w.heap.size + 1 + 1 + 1, 4, none⟩ = some (.int .u16 53) ∧ Cells w' (w.heap.size + 1 + 1) #[.int .u32 84281096, .int .u16 9000, .int .u32 16909060, .int .u16 53] 28 ∧ w'.cell? ⟨w.heap.size + 1 + 1, 0, none⟩ = some (.int .u32 84281096) ∧ w'.cell? ⟨w.heap.size + 1 + 1, 1, none⟩ = some (.int .u16 9000) ∧ w'.cell? ⟨w.heap.size + 1 + 1, 2, none⟩ = some (.int .u32 16909060) ∧ w'.cell? ⟨w.heap.size + 1 + 1, 3, none⟩ = some (.int .u16 53) ∧ True)) (first | assumption | exact SK.out _ _ hS0 (Below.refl _ _).drew | exact SK.out _ _ hS0 (fresh_below _ _).drew | exact SK.out _ _ (by assumption) (fresh_below _ _) | (refine SK.out _ _ ?_ (by assumption); assumption))
    (first | (go_at_call 11; (with_reducible refine (M1.out _).mono ?_); rintro e wq ⟨rfl, bq⟩) | (go_at_call 6; (with_reducible refine (P1.out _ (HK.out.below (by first | exact FS.out _ (by assumption) | exact bstep (FS.out _ (by assumption)) (fresh_below _ _) | exact bstep (bstep (FS.out _ (by assumption)) (fresh_below _ _)) (fresh_below _ _)))).mono ?_); rintro e wq ⟨rfl, bq⟩))
  all_goals
    have gs := GS.out _ (by assumption)
    clear SK FS GS hS0 hT hC
    obtain ⟨gb, hT, _, _, _, _, _, hC, _, _, _, _, _⟩ := gs
    obtain ⟨wA, rfl⟩ : ∃ W : World, W = wq := ⟨_, rfl⟩
    have bA : Below w.heap.size w wA := gb
    clear gb
    go_wp2_with fail
    have SK := hide (fun (zX zY : World) (zh : (Below w.heap.size w zX ∧ Cells zX (w.heap.size + 1 + 1 + 1) #[.int .u8 17, .int .u32 167772161, .int .u16 5, .int .u32 16909060, .int .u16 53] 36 ∧ zX.cell? ⟨w.heap.size + 1 + 1 + 1, 0, none⟩ = some (.int .u8 17) ∧ zX.cell? ⟨w.heap.size + 1 + 1 + 1, 1, none⟩ = some (.int .u32 167772161) ∧ zX.cell? ⟨w.heap.size + 1 + 1 + 1, 2, none⟩ = some (.int .u16 5) ∧ zX.cell? ⟨w.heap.size + 1 + 1 + 1, 3, none⟩ = some (.int .u32 16909060) ∧ zX.cell? ⟨w.heap.size + 1 + 1 + 1, 4, none⟩ = some (.int .u16 53) ∧ Cells zX (w.heap.size + 1 + 1) #[.int .u32 84281096, .int .u16 9000, .int .u32 16909060, .int .u16 53] 28 ∧ zX.cell? ⟨w.heap.size + 1 + 1, 0, none⟩ = some (.int .u32 84281096) ∧ zX.cell? ⟨w.heap.size + 1 + 1, 1, none⟩ = some (.int .u16 9000) ∧ zX.cell? ⟨w.heap.size + 1 + 1, 2, none⟩ = some (.int .u32 16909060) ∧ zX.cell? ⟨w.heap.size + 1 + 1, 3, none⟩ = some (.int .u16 53) ∧ True)) (zb : Below zX.heap.size zX zY) => (show (Below w.heap.size w zY ∧ Cells zY (w.heap.size + 1 + 1 + 1) #[.int .u8 17, .int .u32 167772161, .int .u16 5, .int .u32 16909060, .int .u16 53] 36 ∧ zY.cell? ⟨w.heap.size + 1 + 1 + 1, 0, none⟩ = some (.int .u8 17) ∧ zY.cell? ⟨w.heap.size + 1 + 1 + 1, 1, none⟩ = some (.int .u32 167772161) ∧ zY.cell? ⟨w.heap.size + 1 + 1 + 1, 2, none⟩ = some (.int .u16 5) ∧ zY.cell? ⟨w.heap.size + 1 + 1 + 1, 3, none⟩ = some (.int .u32 16909060) ∧ zY.cell? ⟨w.heap.size + 1 + 1 + 1, 4, none⟩ = some (.int .u16 53) ∧ Cells zY (w.heap.size + 1 + 1) #[.int .u32 84281096, .int .u16 9000, .int .u32 16909060, .int .u16 53] 28 ∧ zY.cell? ⟨w.heap.size + 1 + 1, 0, none⟩ = some (.int .u32 84281096) ∧ zY.cell? ⟨w.heap.size + 1 + 1, 1, none⟩ = some (.int .u16 9000) ∧ zY.cell? ⟨w.heap.size + 1 + 1, 2, none⟩ = some (.int .u32 16909060) ∧ zY.cell? ⟨w.heap.size + 1 + 1, 3, none⟩ = some (.int .u16 53) ∧ True) from ⟨bstep zh.1 zb, Cells.below zb zh.2.1, cellAt zb zh.2.2.1, cellAt zb zh.2.2.2.1, cellAt zb zh.2.2.2.2.1, cellAt zb zh.2.2.2.2.2.1, cellAt zb zh.2.2.2.2.2.2.1, Cells.below zb zh.2.2.2.2.2.2.2.1, cellAt zb zh.2.2.2.2.2.2.2.2.1, cellAt zb zh.2.2.2.2.2.2.2.2.2.1, cellAt zb zh.2.2.2.2.2.2.2.2.2.2.1, cellAt zb zh.2.2.2.2.2.2.2.2.2.2.2.1, trivial⟩))
    have FS := hide (fun (zX : World) (zh : (Below w.heap.size w zX ∧ Cells zX (w.heap.size + 1 + 1 + 1) #[.int .u8 17, .int .u32 167772161, .int .u16 5, .int .u32 16909060, .int .u16 53] 36 ∧ zX.cell? ⟨w.heap.size + 1 + 1 + 1, 0, none⟩ = some (.int .u8 17) ∧ zX.cell? ⟨w.heap.size + 1 + 1 + 1, 1, none⟩ = some (.int .u32 167772161) ∧ zX.cell? ⟨w.heap.size + 1 + 1 + 1, 2, none⟩ = some (.int .u16 5) ∧ zX.cell? ⟨w.heap.size + 1 + 1 + 1, 3, none⟩ = some (.int .u32 16909060) ∧ zX.cell? ⟨w.heap.size + 1 + 1 + 1, 4, none⟩ = some (.int .u16 53) ∧ Cells zX (w.heap.size + 1 + 1) #[.int .u32 84281096, .int .u16 9000, .int .u32 16909060, .int .u16 53] 28 ∧ zX.cell? ⟨w.heap.size + 1 + 1, 0, none⟩ = some (.int .u32 84281096) ∧ zX.cell? ⟨w.heap.size + 1 + 1, 1, none⟩ = some (.int .u16 9000) ∧ zX.cell? ⟨w.heap.size + 1 + 1, 2, none⟩ = some (.int .u32 16909060) ∧ zX.cell? ⟨w.heap.size + 1 + 1, 3, none⟩ = some (.int .u16 53) ∧ True)) => zh.1)
    have GS := hide (fun (zX : World) (zh : (Below w.heap.size w zX ∧ Cells zX (w.heap.size + 1 + 1 + 1) #[.int .u8 17, .int .u32 167772161, .int .u16 5, .int .u32 16909060, .int .u16 53] 36 ∧ zX.cell? ⟨w.heap.size + 1 + 1 + 1, 0, none⟩ = some (.int .u8 17) ∧ zX.cell? ⟨w.heap.size + 1 + 1 + 1, 1, none⟩ = some (.int .u32 167772161) ∧ zX.cell? ⟨w.heap.size + 1 + 1 + 1, 2, none⟩ = some (.int .u16 5) ∧ zX.cell? ⟨w.heap.size + 1 + 1 + 1, 3, none⟩ = some (.int .u32 16909060) ∧ zX.cell? ⟨w.heap.size + 1 + 1 + 1, 4, none⟩ = some (.int .u16 53) ∧ Cells zX (w.heap.size + 1 + 1) #[.int .u32 84281096, .int .u16 9000, .int .u32 16909060, .int .u16 53] 28 ∧ zX.cell? ⟨w.heap.size + 1 + 1, 0, none⟩ = some (.int .u32 84281096) ∧ zX.cell? ⟨w.heap.size + 1 + 1, 1, none⟩ = some (.int .u16 9000) ∧ zX.cell? ⟨w.heap.size + 1 + 1, 2, none⟩ = some (.int .u32 16909060) ∧ zX.cell? ⟨w.heap.size + 1 + 1, 3, none⟩ = some (.int .u16 53) ∧ True)) => zh)
    have hS0 : (Below w.heap.size w wA ∧ Cells wA (w.heap.size + 1 + 1 + 1) #[.int .u8 17, .int .u32 167772161, .int .u16 5, .int .u32 16909060, .int .u16 53] 36 ∧ wA.cell? ⟨w.heap.size + 1 + 1 + 1, 0, none⟩ = some (.int .u8 17) ∧ wA.cell? ⟨w.heap.size + 1 + 1 + 1, 1, none⟩ = some (.int .u32 167772161) ∧ wA.cell? ⟨w.heap.size + 1 + 1 + 1, 2, none⟩ = some (.int .u16 5) ∧ wA.cell? ⟨w.heap.size + 1 + 1 + 1, 3, none⟩ = some (.int .u32 16909060) ∧ wA.cell? ⟨w.heap.size + 1 + 1 + 1, 4, none⟩ = some (.int .u16 53) ∧ Cells wA (w.heap.size + 1 + 1) #[.int .u32 84281096, .int .u16 9000, .int .u32 16909060, .int .u16 53] 28 ∧ wA.cell? ⟨w.heap.size + 1 + 1, 0, none⟩ = some (.int .u32 84281096) ∧ wA.cell? ⟨w.heap.size + 1 + 1, 1, none⟩ = some (.int .u16 9000) ∧ wA.cell? ⟨w.heap.size + 1 + 1, 2, none⟩ = some (.int .u32 16909060) ∧ wA.cell? ⟨w.heap.size + 1 + 1, 3, none⟩ = some (.int .u16 53) ∧ True) := ⟨(by (repeat' (first | with_reducible exact bA | with_reducible exact Below.refl _ _ | with_reducible refine Below.setCell ?_ (by first | exact Nat.le_refl _ | (dsimp only; omega)) _ | with_reducible refine bstep ?_ (fresh_below _ _) | with_reducible refine Below.drew ?_))), hT, hT.at_ 0, hT.at_ 1, hT.at_ 2, hT.at_ 3, hT.at_ 4, hC, hC.at_ 0, hC.at_ 1, hC.at_ 2, hC.at_ 3, trivial⟩
    go_region_held_law (fun w' => (Below w.heap.size w w' ∧ Cells w' (w.heap.size + 1 + 1 + 1) #[.int .u8 17, .int .u32 167772161, .int .u16 5, .int .u32 16909060, .int .u16 53] 36 ∧ w'.cell? ⟨w.heap.size + 1 + 1 + 1, 0, none⟩ = some (.int .u8 17) ∧ w'.cell? ⟨w.heap.size + 1 + 1 + 1, 1, none⟩ = some (.int .u32 167772161) ∧ w'.cell? ⟨w.heap.size + 1 + 1 + 1, 2, none⟩ = some (.int .u16 5) ∧ w'.cell? ⟨w.heap.size + 1 + 1 + 1, 3, none⟩ = some (.int .u32 16909060) ∧ w'.cell? ⟨w.heap.size + 1 + 1 + 1, 4, none⟩ = some (.int .u16 53) ∧ Cells w' (w.heap.size + 1 + 1) #[.int .u32 84281096, .int .u16 9000, .int .u32 16909060, .int .u16 53] 28 ∧ w'.cell? ⟨w.heap.size + 1 + 1, 0, none⟩ = some (.int .u32 84281096) ∧ w'.cell? ⟨w.heap.size + 1 + 1, 1, none⟩ = some (.int .u16 9000) ∧ w'.cell? ⟨w.heap.size + 1 + 1, 2, none⟩ = some (.int .u32 16909060) ∧ w'.cell? ⟨w.heap.size + 1 + 1, 3, none⟩ = some (.int .u16 53) ∧ True)) (first | assumption | exact SK.out _ _ hS0 (Below.refl _ _).drew | exact SK.out _ _ hS0 (fresh_below _ _).drew | exact SK.out _ _ (by assumption) (fresh_below _ _) | (refine SK.out _ _ ?_ (by assumption); assumption))
      (first | (go_at_call 11; (with_reducible refine (M2.out _).mono ?_); rintro e wq ⟨rfl, bq⟩) | (go_at_call 6; (with_reducible refine (P2.out _ (HK.out.below (by first | exact FS.out _ (by assumption) | exact bstep (FS.out _ (by assumption)) (fresh_below _ _) | exact bstep (bstep (FS.out _ (by assumption)) (fresh_below _ _)) (fresh_below _ _)))).mono ?_); rintro e wq ⟨rfl, bq⟩))
    all_goals
      have gs := GS.out _ (by assumption)
      clear SK FS GS hS0 hT hC
      obtain ⟨gb, hT, _, _, _, _, _, hC, _, _, _, _, _⟩ := gs
      obtain ⟨wB, rfl⟩ : ∃ W : World, W = wq := ⟨_, rfl⟩
      have bB : Below w.heap.size w wB := gb
      clear gb
      have xhC_0 : wB.cell? ⟨w.heap.size + 1 + 1, 0, none⟩ = some (.int .u32 84281096) := hC.at_ 0
      have xhC_1 : wB.cell? ⟨w.heap.size + 1 + 1, 1, none⟩ = some (.int .u16 9000) := hC.at_ 1
      have xhC_2 : wB.cell? ⟨w.heap.size + 1 + 1, 2, none⟩ = some (.int .u32 16909060) := hC.at_ 2
      have xhC_3 : wB.cell? ⟨w.heap.size + 1 + 1, 3, none⟩ = some (.int .u16 53) := hC.at_ 3
      go_wp2_with fail
      (with_reducible refine (P0.out _ (HK.out.below bB)).mono ?_)
      rintro e wC ⟨rfl, bC⟩
      replace hT := Cells.below bC hT
      replace hC := Cells.below bC hC
      replace bC : Below w.heap.size w wC := bstep bB bC
      clear xhC_0 xhC_1 xhC_2 xhC_3
      have xhT_0 : wC.cell? ⟨w.heap.size + 1 + 1 + 1, 0, none⟩ = some (.int .u8 17) := hT.at_ 0
      have xhT_1 : wC.cell? ⟨w.heap.size + 1 + 1 + 1, 1, none⟩ = some (.int .u32 167772161) := hT.at_ 1
      have xhT_2 : wC.cell? ⟨w.heap.size + 1 + 1 + 1, 2, none⟩ = some (.int .u16 5) := hT.at_ 2
      have xhT_3 : wC.cell? ⟨w.heap.size + 1 + 1 + 1, 3, none⟩ = some (.int .u32 16909060) := hT.at_ 3
      have xhT_4 : wC.cell? ⟨w.heap.size + 1 + 1 + 1, 4, none⟩ = some (.int .u16 53) := hT.at_ 4
      have yhT_0 : wC.frozen? ⟨w.heap.size + 1 + 1 + 1, 0, none⟩ = false := hT.free 0
      have yhT_1 : wC.frozen? ⟨w.heap.size + 1 + 1 + 1, 1, none⟩ = false := hT.free 1
      have yhT_2 : wC.frozen? ⟨w.heap.size + 1 + 1 + 1, 2, none⟩ = false := hT.free 2
      have yhT_3 : wC.frozen? ⟨w.heap.size + 1 + 1 + 1, 3, none⟩ = false := hT.free 3
      have yhT_4 : wC.frozen? ⟨w.heap.size + 1 + 1 + 1, 4, none⟩ = false := hT.free 4
      have hT1 := hT.set_ 0 (.int .u8 1)
      have hC1 := hC.other (show w.heap.size + 1 + 1 ≠ w.heap.size + 1 + 1 + 1 by omega) 0 (.int .u8 1)
      have bs1 := bC.setCell (p := ⟨w.heap.size + 1 + 1 + 1, 0, none⟩) (by dsimp only; omega) (.int .u8 1)
      have hT2 := hT1.set_ 2 (.int .u16 7)
      have hC2 := hC1.other (show w.heap.size + 1 + 1 ≠ w.heap.size + 1 + 1 + 1 by omega) 2 (.int .u16 7)
      have bs2 := bs1.setCell (p := ⟨w.heap.size + 1 + 1 + 1, 2, none⟩) (by dsimp only; omega) (.int .u16 7)
      have hT3 := hT2.set_ 4 (.int .u16 0)
      have hC3 := hC2.other (show w.heap.size + 1 + 1 ≠ w.heap.size + 1 + 1 + 1 by omega) 4 (.int .u16 0)
      have bs3 := bs2.setCell (p := ⟨w.heap.size + 1 + 1 + 1, 4, none⟩) (by dsimp only; omega) (.int .u16 0)
      have hTn : Cells (((wC.setCell ⟨w.heap.size + 1 + 1 + 1, 0, none⟩ (.int .u8 1)).setCell ⟨w.heap.size + 1 + 1 + 1, 2, none⟩ (.int .u16 7)).setCell ⟨w.heap.size + 1 + 1 + 1, 4, none⟩ (.int .u16 0)) (w.heap.size + 1 + 1 + 1) #[.int .u8 1, .int .u32 167772161, .int .u16 7, .int .u32 16909060, .int .u16 0] 36 := hT3
      have HTN := hide hTn; have HCN := hide hC3; have HBN := hide bs3
      clear hTn hT1 hC1 bs1 hT2 hC2 bs2 hT3 hC3 bs3 hT hC
      go_wp2_with fail
      generalize (((wC.setCell ⟨w.heap.size + 1 + 1 + 1, 0, none⟩ (.int .u8 1)).setCell ⟨w.heap.size + 1 + 1 + 1, 2, none⟩ (.int .u16 7)).setCell ⟨w.heap.size + 1 + 1 + 1, 4, none⟩ (.int .u16 0)) = wD at *
      have hT := HTN.out; have hC := HCN.out; have bD := HBN.out
      clear HTN HCN HBN xhT_0 yhT_0 xhT_1 yhT_1 xhT_2 yhT_2 xhT_3 yhT_3 xhT_4 yhT_4
      have SK := hide (fun (zX zY : World) (zh : (Below w.heap.size w zX ∧ Cells zX (w.heap.size + 1 + 1 + 1) #[.int .u8 1, .int .u32 167772161, .int .u16 7, .int .u32 16909060, .int .u16 0] 36 ∧ zX.cell? ⟨w.heap.size + 1 + 1 + 1, 0, none⟩ = some (.int .u8 1) ∧ zX.cell? ⟨w.heap.size + 1 + 1 + 1, 1, none⟩ = some (.int .u32 167772161) ∧ zX.cell? ⟨w.heap.size + 1 + 1 + 1, 2, none⟩ = some (.int .u16 7) ∧ zX.cell? ⟨w.heap.size + 1 + 1 + 1, 3, none⟩ = some (.int .u32 16909060) ∧ zX.cell? ⟨w.heap.size + 1 + 1 + 1, 4, none⟩ = some (.int .u16 0) ∧ Cells zX (w.heap.size + 1 + 1) #[.int .u32 84281096, .int .u16 9000, .int .u32 16909060, .int .u16 53] 28 ∧ zX.cell? ⟨w.heap.size + 1 + 1, 0, none⟩ = some (.int .u32 84281096) ∧ zX.cell? ⟨w.heap.size + 1 + 1, 1, none⟩ = some (.int .u16 9000) ∧ zX.cell? ⟨w.heap.size + 1 + 1, 2, none⟩ = some (.int .u32 16909060) ∧ zX.cell? ⟨w.heap.size + 1 + 1, 3, none⟩ = some (.int .u16 53) ∧ True)) (zb : Below zX.heap.size zX zY) => (show (Below w.heap.size w zY ∧ Cells zY (w.heap.size + 1 + 1 + 1) #[.int .u8 1, .int .u32 167772161, .int .u16 7, .int .u32 16909060, .int .u16 0] 36 ∧ zY.cell? ⟨w.heap.size + 1 + 1 + 1, 0, none⟩ = some (.int .u8 1) ∧ zY.cell? ⟨w.heap.size + 1 + 1 + 1, 1, none⟩ = some (.int .u32 167772161) ∧ zY.cell? ⟨w.heap.size + 1 + 1 + 1, 2, none⟩ = some (.int .u16 7) ∧ zY.cell? ⟨w.heap.size + 1 + 1 + 1, 3, none⟩ = some (.int .u32 16909060) ∧ zY.cell? ⟨w.heap.size + 1 + 1 + 1, 4, none⟩ = some (.int .u16 0) ∧ Cells zY (w.heap.size + 1 + 1) #[.int .u32 84281096, .int .u16 9000, .int .u32 16909060, .int .u16 53] 28 ∧ zY.cell? ⟨w.heap.size + 1 + 1, 0, none⟩ = some (.int .u32 84281096) ∧ zY.cell? ⟨w.heap.size + 1 + 1, 1, none⟩ = some (.int .u16 9000) ∧ zY.cell? ⟨w.heap.size + 1 + 1, 2, none⟩ = some (.int .u32 16909060) ∧ zY.cell? ⟨w.heap.size + 1 + 1, 3, none⟩ = some (.int .u16 53) ∧ True) from ⟨bstep zh.1 zb, Cells.below zb zh.2.1, cellAt zb zh.2.2.1, cellAt zb zh.2.2.2.1, cellAt zb zh.2.2.2.2.1, cellAt zb zh.2.2.2.2.2.1, cellAt zb zh.2.2.2.2.2.2.1, Cells.below zb zh.2.2.2.2.2.2.2.1, cellAt zb zh.2.2.2.2.2.2.2.2.1, cellAt zb zh.2.2.2.2.2.2.2.2.2.1, cellAt zb zh.2.2.2.2.2.2.2.2.2.2.1, cellAt zb zh.2.2.2.2.2.2.2.2.2.2.2.1, trivial⟩))
      have FS := hide (fun (zX : World) (zh : (Below w.heap.size w zX ∧ Cells zX (w.heap.size + 1 + 1 + 1) #[.int .u8 1, .int .u32 167772161, .int .u16 7, .int .u32 16909060, .int .u16 0] 36 ∧ zX.cell? ⟨w.heap.size + 1 + 1 + 1, 0, none⟩ = some (.int .u8 1) ∧ zX.cell? ⟨w.heap.size + 1 + 1 + 1, 1, none⟩ = some (.int .u32 167772161) ∧ zX.cell? ⟨w.heap.size + 1 + 1 + 1, 2, none⟩ = some (.int .u16 7) ∧ zX.cell? ⟨w.heap.size + 1 + 1 + 1, 3, none⟩ = some (.int .u32 16909060) ∧ zX.cell? ⟨w.heap.size + 1 + 1 + 1, 4, none⟩ = some (.int .u16 0) ∧ Cells zX (w.heap.size + 1 + 1) #[.int .u32 84281096, .int .u16 9000, .int .u32 16909060, .int .u16 53] 28 ∧ zX.cell? ⟨w.heap.size + 1 + 1, 0, none⟩ = some (.int .u32 84281096) ∧ zX.cell? ⟨w.heap.size + 1 + 1, 1, none⟩ = some (.int .u16 9000) ∧ zX.cell? ⟨w.heap.size + 1 + 1, 2, none⟩ = some (.int .u32 16909060) ∧ zX.cell? ⟨w.heap.size + 1 + 1, 3, none⟩ = some (.int .u16 53) ∧ True)) => zh.1)
      have GS := hide (fun (zX : World) (zh : (Below w.heap.size w zX ∧ Cells zX (w.heap.size + 1 + 1 + 1) #[.int .u8 1, .int .u32 167772161, .int .u16 7, .int .u32 16909060, .int .u16 0] 36 ∧ zX.cell? ⟨w.heap.size + 1 + 1 + 1, 0, none⟩ = some (.int .u8 1) ∧ zX.cell? ⟨w.heap.size + 1 + 1 + 1, 1, none⟩ = some (.int .u32 167772161) ∧ zX.cell? ⟨w.heap.size + 1 + 1 + 1, 2, none⟩ = some (.int .u16 7) ∧ zX.cell? ⟨w.heap.size + 1 + 1 + 1, 3, none⟩ = some (.int .u32 16909060) ∧ zX.cell? ⟨w.heap.size + 1 + 1 + 1, 4, none⟩ = some (.int .u16 0) ∧ Cells zX (w.heap.size + 1 + 1) #[.int .u32 84281096, .int .u16 9000, .int .u32 16909060, .int .u16 53] 28 ∧ zX.cell? ⟨w.heap.size + 1 + 1, 0, none⟩ = some (.int .u32 84281096) ∧ zX.cell? ⟨w.heap.size + 1 + 1, 1, none⟩ = some (.int .u16 9000) ∧ zX.cell? ⟨w.heap.size + 1 + 1, 2, none⟩ = some (.int .u32 16909060) ∧ zX.cell? ⟨w.heap.size + 1 + 1, 3, none⟩ = some (.int .u16 53) ∧ True)) => zh)
      have hS0 : (Below w.heap.size w wD ∧ Cells wD (w.heap.size + 1 + 1 + 1) #[.int .u8 1, .int .u32 167772161, .int .u16 7, .int .u32 16909060, .int .u16 0] 36 ∧ wD.cell? ⟨w.heap.size + 1 + 1 + 1, 0, none⟩ = some (.int .u8 1) ∧ wD.cell? ⟨w.heap.size + 1 + 1 + 1, 1, none⟩ = some (.int .u32 167772161) ∧ wD.cell? ⟨w.heap.size + 1 + 1 + 1, 2, none⟩ = some (.int .u16 7) ∧ wD.cell? ⟨w.heap.size + 1 + 1 + 1, 3, none⟩ = some (.int .u32 16909060) ∧ wD.cell? ⟨w.heap.size + 1 + 1 + 1, 4, none⟩ = some (.int .u16 0) ∧ Cells wD (w.heap.size + 1 + 1) #[.int .u32 84281096, .int .u16 9000, .int .u32 16909060, .int .u16 53] 28 ∧ wD.cell? ⟨w.heap.size + 1 + 1, 0, none⟩ = some (.int .u32 84281096) ∧ wD.cell? ⟨w.heap.size + 1 + 1, 1, none⟩ = some (.int .u16 9000) ∧ wD.cell? ⟨w.heap.size + 1 + 1, 2, none⟩ = some (.int .u32 16909060) ∧ wD.cell? ⟨w.heap.size + 1 + 1, 3, none⟩ = some (.int .u16 53) ∧ True) := ⟨(by (repeat' (first | with_reducible exact bD | with_reducible exact Below.refl _ _ | with_reducible refine Below.setCell ?_ (by first | exact Nat.le_refl _ | (dsimp only; omega)) _ | with_reducible refine bstep ?_ (fresh_below _ _) | with_reducible refine Below.drew ?_))), hT, hT.at_ 0, hT.at_ 1, hT.at_ 2, hT.at_ 3, hT.at_ 4, hC, hC.at_ 0, hC.at_ 1, hC.at_ 2, hC.at_ 3, trivial⟩
      go_region_held_law (fun w' => (Below w.heap.size w w' ∧ Cells w' (w.heap.size + 1 + 1 + 1) #[.int .u8 1, .int .u32 167772161, .int .u16 7, .int .u32 16909060, .int .u16 0] 36 ∧ w'.cell? ⟨w.heap.size + 1 + 1 + 1, 0, none⟩ = some (.int .u8 1) ∧ w'.cell? ⟨w.heap.size + 1 + 1 + 1, 1, none⟩ = some (.int .u32 167772161) ∧ w'.cell? ⟨w.heap.size + 1 + 1 + 1, 2, none⟩ = some (.int .u16 7) ∧ w'.cell? ⟨w.heap.size + 1 + 1 + 1, 3, none⟩ = some (.int .u32 16909060) ∧ w'.cell? ⟨w.heap.size + 1 + 1 + 1, 4, none⟩ = some (.int .u16 0) ∧ Cells w' (w.heap.size + 1 + 1) #[.int .u32 84281096, .int .u16 9000, .int .u32 16909060, .int .u16 53] 28 ∧ w'.cell? ⟨w.heap.size + 1 + 1, 0, none⟩ = some (.int .u32 84281096) ∧ w'.cell? ⟨w.heap.size + 1 + 1, 1, none⟩ = some (.int .u16 9000) ∧ w'.cell? ⟨w.heap.size + 1 + 1, 2, none⟩ = some (.int .u32 16909060) ∧ w'.cell? ⟨w.heap.size + 1 + 1, 3, none⟩ = some (.int .u16 53) ∧ True)) (first | assumption | exact SK.out _ _ hS0 (Below.refl _ _).drew | exact SK.out _ _ hS0 (fresh_below _ _).drew | exact SK.out _ _ (by assumption) (fresh_below _ _) | (refine SK.out _ _ ?_ (by assumption); assumption))
        (first | (go_at_call 11; (with_reducible refine (M3.out _).mono ?_); rintro e wq ⟨rfl, bq⟩) | (go_at_call 6; (with_reducible refine (P3.out _ (HK.out.below (by first | exact FS.out _ (by assumption) | exact bstep (FS.out _ (by assumption)) (fresh_below _ _) | exact bstep (bstep (FS.out _ (by assumption)) (fresh_below _ _)) (fresh_below _ _)))).mono ?_); rintro e wq ⟨rfl, bq⟩))
      all_goals
        have gs := GS.out _ (by assumption)
        clear SK FS GS hS0 hT hC
        obtain ⟨gb, hT, _, _, _, _, _, hC, _, _, _, _, _⟩ := gs
        obtain ⟨wE, rfl⟩ : ∃ W : World, W = wq := ⟨_, rfl⟩
        have bE : Below w.heap.size w wE := gb
        clear gb
        have xhT_0 : wE.cell? ⟨w.heap.size + 1 + 1 + 1, 0, none⟩ = some (.int .u8 1) := hT.at_ 0
        have xhT_1 : wE.cell? ⟨w.heap.size + 1 + 1 + 1, 1, none⟩ = some (.int .u32 167772161) := hT.at_ 1
        have xhT_2 : wE.cell? ⟨w.heap.size + 1 + 1 + 1, 2, none⟩ = some (.int .u16 7) := hT.at_ 2
        have xhT_3 : wE.cell? ⟨w.heap.size + 1 + 1 + 1, 3, none⟩ = some (.int .u32 16909060) := hT.at_ 3
        have xhT_4 : wE.cell? ⟨w.heap.size + 1 + 1 + 1, 4, none⟩ = some (.int .u16 0) := hT.at_ 4
        have yhT_0 : wE.frozen? ⟨w.heap.size + 1 + 1 + 1, 0, none⟩ = false := hT.free 0
        have yhT_1 : wE.frozen? ⟨w.heap.size + 1 + 1 + 1, 1, none⟩ = false := hT.free 1
        have yhT_2 : wE.frozen? ⟨w.heap.size + 1 + 1 + 1, 2, none⟩ = false := hT.free 2
        have yhT_3 : wE.frozen? ⟨w.heap.size + 1 + 1 + 1, 3, none⟩ = false := hT.free 3
        have yhT_4 : wE.frozen? ⟨w.heap.size + 1 + 1 + 1, 4, none⟩ = false := hT.free 4
        have hT1 := hT.set_ 2 (.int .u16 0)
        have hC1 := hC.other (show w.heap.size + 1 + 1 ≠ w.heap.size + 1 + 1 + 1 by omega) 2 (.int .u16 0)
        have bs1 := bE.setCell (p := ⟨w.heap.size + 1 + 1 + 1, 2, none⟩) (by dsimp only; omega) (.int .u16 0)
        have hT2 := hT1.set_ 4 (.int .u16 7)
        have hC2 := hC1.other (show w.heap.size + 1 + 1 ≠ w.heap.size + 1 + 1 + 1 by omega) 4 (.int .u16 7)
        have bs2 := bs1.setCell (p := ⟨w.heap.size + 1 + 1 + 1, 4, none⟩) (by dsimp only; omega) (.int .u16 7)
        have hTn : Cells ((wE.setCell ⟨w.heap.size + 1 + 1 + 1, 2, none⟩ (.int .u16 0)).setCell ⟨w.heap.size + 1 + 1 + 1, 4, none⟩ (.int .u16 7)) (w.heap.size + 1 + 1 + 1) #[.int .u8 1, .int .u32 167772161, .int .u16 0, .int .u32 16909060, .int .u16 7] 36 := hT2
        have HTN := hide hTn; have HCN := hide hC2; have HBN := hide bs2
        clear hTn hT1 hC1 bs1 hT2 hC2 bs2 hT hC
        go_wp2_with fail
        generalize ((wE.setCell ⟨w.heap.size + 1 + 1 + 1, 2, none⟩ (.int .u16 0)).setCell ⟨w.heap.size + 1 + 1 + 1, 4, none⟩ (.int .u16 7)) = wF at *
        have hT := HTN.out; have hC := HCN.out; have bF := HBN.out
        clear HTN HCN HBN xhT_0 yhT_0 xhT_1 yhT_1 xhT_2 yhT_2 xhT_3 yhT_3 xhT_4 yhT_4
        have SK := hide (fun (zX zY : World) (zh : (Below w.heap.size w zX ∧ Cells zX (w.heap.size + 1 + 1 + 1) #[.int .u8 1, .int .u32 167772161, .int .u16 0, .int .u32 16909060, .int .u16 7] 36 ∧ zX.cell? ⟨w.heap.size + 1 + 1 + 1, 0, none⟩ = some (.int .u8 1) ∧ zX.cell? ⟨w.heap.size + 1 + 1 + 1, 1, none⟩ = some (.int .u32 167772161) ∧ zX.cell? ⟨w.heap.size + 1 + 1 + 1, 2, none⟩ = some (.int .u16 0) ∧ zX.cell? ⟨w.heap.size + 1 + 1 + 1, 3, none⟩ = some (.int .u32 16909060) ∧ zX.cell? ⟨w.heap.size + 1 + 1 + 1, 4, none⟩ = some (.int .u16 7) ∧ Cells zX (w.heap.size + 1 + 1) #[.int .u32 84281096, .int .u16 9000, .int .u32 16909060, .int .u16 53] 28 ∧ zX.cell? ⟨w.heap.size + 1 + 1, 0, none⟩ = some (.int .u32 84281096) ∧ zX.cell? ⟨w.heap.size + 1 + 1, 1, none⟩ = some (.int .u16 9000) ∧ zX.cell? ⟨w.heap.size + 1 + 1, 2, none⟩ = some (.int .u32 16909060) ∧ zX.cell? ⟨w.heap.size + 1 + 1, 3, none⟩ = some (.int .u16 53) ∧ True)) (zb : Below zX.heap.size zX zY) => (show (Below w.heap.size w zY ∧ Cells zY (w.heap.size + 1 + 1 + 1) #[.int .u8 1, .int .u32 167772161, .int .u16 0, .int .u32 16909060, .int .u16 7] 36 ∧ zY.cell? ⟨w.heap.size + 1 + 1 + 1, 0, none⟩ = some (.int .u8 1) ∧ zY.cell? ⟨w.heap.size + 1 + 1 + 1, 1, none⟩ = some (.int .u32 167772161) ∧ zY.cell? ⟨w.heap.size + 1 + 1 + 1, 2, none⟩ = some (.int .u16 0) ∧ zY.cell? ⟨w.heap.size + 1 + 1 + 1, 3, none⟩ = some (.int .u32 16909060) ∧ zY.cell? ⟨w.heap.size + 1 + 1 + 1, 4, none⟩ = some (.int .u16 7) ∧ Cells zY (w.heap.size + 1 + 1) #[.int .u32 84281096, .int .u16 9000, .int .u32 16909060, .int .u16 53] 28 ∧ zY.cell? ⟨w.heap.size + 1 + 1, 0, none⟩ = some (.int .u32 84281096) ∧ zY.cell? ⟨w.heap.size + 1 + 1, 1, none⟩ = some (.int .u16 9000) ∧ zY.cell? ⟨w.heap.size + 1 + 1, 2, none⟩ = some (.int .u32 16909060) ∧ zY.cell? ⟨w.heap.size + 1 + 1, 3, none⟩ = some (.int .u16 53) ∧ True) from ⟨bstep zh.1 zb, Cells.below zb zh.2.1, cellAt zb zh.2.2.1, cellAt zb zh.2.2.2.1, cellAt zb zh.2.2.2.2.1, cellAt zb zh.2.2.2.2.2.1, cellAt zb zh.2.2.2.2.2.2.1, Cells.below zb zh.2.2.2.2.2.2.2.1, cellAt zb zh.2.2.2.2.2.2.2.2.1, cellAt zb zh.2.2.2.2.2.2.2.2.2.1, cellAt zb zh.2.2.2.2.2.2.2.2.2.2.1, cellAt zb zh.2.2.2.2.2.2.2.2.2.2.2.1, trivial⟩))
        have FS := hide (fun (zX : World) (zh : (Below w.heap.size w zX ∧ Cells zX (w.heap.size + 1 + 1 + 1) #[.int .u8 1, .int .u32 167772161, .int .u16 0, .int .u32 16909060, .int .u16 7] 36 ∧ zX.cell? ⟨w.heap.size + 1 + 1 + 1, 0, none⟩ = some (.int .u8 1) ∧ zX.cell? ⟨w.heap.size + 1 + 1 + 1, 1, none⟩ = some (.int .u32 167772161) ∧ zX.cell? ⟨w.heap.size + 1 + 1 + 1, 2, none⟩ = some (.int .u16 0) ∧ zX.cell? ⟨w.heap.size + 1 + 1 + 1, 3, none⟩ = some (.int .u32 16909060) ∧ zX.cell? ⟨w.heap.size + 1 + 1 + 1, 4, none⟩ = some (.int .u16 7) ∧ Cells zX (w.heap.size + 1 + 1) #[.int .u32 84281096, .int .u16 9000, .int .u32 16909060, .int .u16 53] 28 ∧ zX.cell? ⟨w.heap.size + 1 + 1, 0, none⟩ = some (.int .u32 84281096) ∧ zX.cell? ⟨w.heap.size + 1 + 1, 1, none⟩ = some (.int .u16 9000) ∧ zX.cell? ⟨w.heap.size + 1 + 1, 2, none⟩ = some (.int .u32 16909060) ∧ zX.cell? ⟨w.heap.size + 1 + 1, 3, none⟩ = some (.int .u16 53) ∧ True)) => zh.1)
        have GS := hide (fun (zX : World) (zh : (Below w.heap.size w zX ∧ Cells zX (w.heap.size + 1 + 1 + 1) #[.int .u8 1, .int .u32 167772161, .int .u16 0, .int .u32 16909060, .int .u16 7] 36 ∧ zX.cell? ⟨w.heap.size + 1 + 1 + 1, 0, none⟩ = some (.int .u8 1) ∧ zX.cell? ⟨w.heap.size + 1 + 1 + 1, 1, none⟩ = some (.int .u32 167772161) ∧ zX.cell? ⟨w.heap.size + 1 + 1 + 1, 2, none⟩ = some (.int .u16 0) ∧ zX.cell? ⟨w.heap.size + 1 + 1 + 1, 3, none⟩ = some (.int .u32 16909060) ∧ zX.cell? ⟨w.heap.size + 1 + 1 + 1, 4, none⟩ = some (.int .u16 7) ∧ Cells zX (w.heap.size + 1 + 1) #[.int .u32 84281096, .int .u16 9000, .int .u32 16909060, .int .u16 53] 28 ∧ zX.cell? ⟨w.heap.size + 1 + 1, 0, none⟩ = some (.int .u32 84281096) ∧ zX.cell? ⟨w.heap.size + 1 + 1, 1, none⟩ = some (.int .u16 9000) ∧ zX.cell? ⟨w.heap.size + 1 + 1, 2, none⟩ = some (.int .u32 16909060) ∧ zX.cell? ⟨w.heap.size + 1 + 1, 3, none⟩ = some (.int .u16 53) ∧ True)) => zh)
        have hS0 : (Below w.heap.size w wF ∧ Cells wF (w.heap.size + 1 + 1 + 1) #[.int .u8 1, .int .u32 167772161, .int .u16 0, .int .u32 16909060, .int .u16 7] 36 ∧ wF.cell? ⟨w.heap.size + 1 + 1 + 1, 0, none⟩ = some (.int .u8 1) ∧ wF.cell? ⟨w.heap.size + 1 + 1 + 1, 1, none⟩ = some (.int .u32 167772161) ∧ wF.cell? ⟨w.heap.size + 1 + 1 + 1, 2, none⟩ = some (.int .u16 0) ∧ wF.cell? ⟨w.heap.size + 1 + 1 + 1, 3, none⟩ = some (.int .u32 16909060) ∧ wF.cell? ⟨w.heap.size + 1 + 1 + 1, 4, none⟩ = some (.int .u16 7) ∧ Cells wF (w.heap.size + 1 + 1) #[.int .u32 84281096, .int .u16 9000, .int .u32 16909060, .int .u16 53] 28 ∧ wF.cell? ⟨w.heap.size + 1 + 1, 0, none⟩ = some (.int .u32 84281096) ∧ wF.cell? ⟨w.heap.size + 1 + 1, 1, none⟩ = some (.int .u16 9000) ∧ wF.cell? ⟨w.heap.size + 1 + 1, 2, none⟩ = some (.int .u32 16909060) ∧ wF.cell? ⟨w.heap.size + 1 + 1, 3, none⟩ = some (.int .u16 53) ∧ True) := ⟨(by (repeat' (first | with_reducible exact bF | with_reducible exact Below.refl _ _ | with_reducible refine Below.setCell ?_ (by first | exact Nat.le_refl _ | (dsimp only; omega)) _ | with_reducible refine bstep ?_ (fresh_below _ _) | with_reducible refine Below.drew ?_))), hT, hT.at_ 0, hT.at_ 1, hT.at_ 2, hT.at_ 3, hT.at_ 4, hC, hC.at_ 0, hC.at_ 1, hC.at_ 2, hC.at_ 3, trivial⟩
        go_region_held_law (fun w' => (Below w.heap.size w w' ∧ Cells w' (w.heap.size + 1 + 1 + 1) #[.int .u8 1, .int .u32 167772161, .int .u16 0, .int .u32 16909060, .int .u16 7] 36 ∧ w'.cell? ⟨w.heap.size + 1 + 1 + 1, 0, none⟩ = some (.int .u8 1) ∧ w'.cell? ⟨w.heap.size + 1 + 1 + 1, 1, none⟩ = some (.int .u32 167772161) ∧ w'.cell? ⟨w.heap.size + 1 + 1 + 1, 2, none⟩ = some (.int .u16 0) ∧ w'.cell? ⟨w.heap.size + 1 + 1 + 1, 3, none⟩ = some (.int .u32 16909060) ∧ w'.cell? ⟨w.heap.size + 1 + 1 + 1, 4, none⟩ = some (.int .u16 7) ∧ Cells w' (w.heap.size + 1 + 1) #[.int .u32 84281096, .int .u16 9000, .int .u32 16909060, .int .u16 53] 28 ∧ w'.cell? ⟨w.heap.size + 1 + 1, 0, none⟩ = some (.int .u32 84281096) ∧ w'.cell? ⟨w.heap.size + 1 + 1, 1, none⟩ = some (.int .u16 9000) ∧ w'.cell? ⟨w.heap.size + 1 + 1, 2, none⟩ = some (.int .u32 16909060) ∧ w'.cell? ⟨w.heap.size + 1 + 1, 3, none⟩ = some (.int .u16 53) ∧ True)) (first | assumption | exact SK.out _ _ hS0 (Below.refl _ _).drew | exact SK.out _ _ hS0 (fresh_below _ _).drew | exact SK.out _ _ (by assumption) (fresh_below _ _) | (refine SK.out _ _ ?_ (by assumption); assumption))
          (first | (go_at_call 11; (with_reducible refine (M4.out _).mono ?_); rintro e wq ⟨rfl, bq⟩) | (go_at_call 6; (with_reducible refine (P4.out _ (HK.out.below (by first | exact FS.out _ (by assumption) | exact bstep (FS.out _ (by assumption)) (fresh_below _ _) | exact bstep (bstep (FS.out _ (by assumption)) (fresh_below _ _)) (fresh_below _ _)))).mono ?_); rintro e wq ⟨rfl, bq⟩))
        all_goals
          have gs := GS.out _ (by assumption)
          clear SK FS GS hS0 hT hC
          obtain ⟨gb, hT, _, _, _, _, _, hC, _, _, _, _, _⟩ := gs
          obtain ⟨wG, rfl⟩ : ∃ W : World, W = wq := ⟨_, rfl⟩
          have bG : Below w.heap.size w wG := gb
          clear gb
          clear hT hC
          go_wp2_with fail
          (with_reducible refine (O1.out _ (HK.out.below bG)).mono ?_)
          rintro e wH ⟨rfl, bH⟩
          have d1 := Cells.new wH #[.int .u8 17, .int .u32 84281096, .int .u16 9000, .int .u32 16909060, .int .u16 53, .int .i64 2, .int .u8 0, .bool false, .int .u8 63] 38
          replace bH : Below w.heap.size w (wH.alloc (.cells #[.int .u8 17, .int .u32 84281096, .int .u16 9000, .int .u32 16909060, .int .u16 53, .int .i64 2, .int .u8 0, .bool false, .int .u8 63] 38)) := bstep (bstep bG bH) (fresh_below _ _)
          go_wp2_with fail
          (with_reducible refine (O3.out _ (HK.out.below bH)).mono ?_)
          rintro e wI ⟨rfl, bI⟩
          replace d1 := Cells.alloc (Cells.below bI d1) (.cells #[.int .u8 1, .int .u32 84281096, .int .u16 9000, .int .u32 16909060, .int .u16 0, .int .i64 2, .int .u8 0, .bool true, .int .u8 63] 38)
          have d3 := Cells.new wI #[.int .u8 1, .int .u32 84281096, .int .u16 9000, .int .u32 16909060, .int .u16 0, .int .i64 2, .int .u8 0, .bool true, .int .u8 63] 38
          replace bI : Below w.heap.size w (wI.alloc (.cells #[.int .u8 1, .int .u32 84281096, .int .u16 9000, .int .u32 16909060, .int .u16 0, .int .i64 2, .int .u8 0, .bool true, .int .u8 63] 38)) := bstep (bstep bH bI) (fresh_below _ _)
          go_wp2_with fail
          (with_reducible refine (O4.out _ (HK.out.below bI)).mono ?_)
          rintro e wJ ⟨rfl, bJ⟩
          replace d1 := Cells.alloc (Cells.below bJ d1) (.cells #[.int .u8 1, .int .u32 84281096, .int .u16 0, .int .u32 16909060, .int .u16 53, .int .i64 2, .int .u8 0, .bool false, .int .u8 63] 38)
          replace d3 := Cells.alloc (Cells.below bJ d3) (.cells #[.int .u8 1, .int .u32 84281096, .int .u16 0, .int .u32 16909060, .int .u16 53, .int .i64 2, .int .u8 0, .bool false, .int .u8 63] 38)
          have d4 := Cells.new wJ #[.int .u8 1, .int .u32 84281096, .int .u16 0, .int .u32 16909060, .int .u16 53, .int .i64 2, .int .u8 0, .bool false, .int .u8 63] 38
          replace bJ : Below w.heap.size w (wJ.alloc (.cells #[.int .u8 1, .int .u32 84281096, .int .u16 0, .int .u32 16909060, .int .u16 53, .int .i64 2, .int .u8 0, .bool false, .int .u8 63] 38)) := bstep (bstep bI bJ) (fresh_below _ _)
          have xd1_0 : ((wJ.alloc (.cells #[.int .u8 1, .int .u32 84281096, .int .u16 0, .int .u32 16909060, .int .u16 53, .int .i64 2, .int .u8 0, .bool false, .int .u8 63] 38))).cell? ⟨wH.heap.size, 0, none⟩ = some (.int .u8 17) := d1.at_ 0
          have xd1_1 : ((wJ.alloc (.cells #[.int .u8 1, .int .u32 84281096, .int .u16 0, .int .u32 16909060, .int .u16 53, .int .i64 2, .int .u8 0, .bool false, .int .u8 63] 38))).cell? ⟨wH.heap.size, 1, none⟩ = some (.int .u32 84281096) := d1.at_ 1
          have xd1_2 : ((wJ.alloc (.cells #[.int .u8 1, .int .u32 84281096, .int .u16 0, .int .u32 16909060, .int .u16 53, .int .i64 2, .int .u8 0, .bool false, .int .u8 63] 38))).cell? ⟨wH.heap.size, 2, none⟩ = some (.int .u16 9000) := d1.at_ 2
          have xd1_3 : ((wJ.alloc (.cells #[.int .u8 1, .int .u32 84281096, .int .u16 0, .int .u32 16909060, .int .u16 53, .int .i64 2, .int .u8 0, .bool false, .int .u8 63] 38))).cell? ⟨wH.heap.size, 3, none⟩ = some (.int .u32 16909060) := d1.at_ 3
          have xd1_4 : ((wJ.alloc (.cells #[.int .u8 1, .int .u32 84281096, .int .u16 0, .int .u32 16909060, .int .u16 53, .int .i64 2, .int .u8 0, .bool false, .int .u8 63] 38))).cell? ⟨wH.heap.size, 4, none⟩ = some (.int .u16 53) := d1.at_ 4
          have xd1_5 : ((wJ.alloc (.cells #[.int .u8 1, .int .u32 84281096, .int .u16 0, .int .u32 16909060, .int .u16 53, .int .i64 2, .int .u8 0, .bool false, .int .u8 63] 38))).cell? ⟨wH.heap.size, 5, none⟩ = some (.int .i64 2) := d1.at_ 5
          have xd1_6 : ((wJ.alloc (.cells #[.int .u8 1, .int .u32 84281096, .int .u16 0, .int .u32 16909060, .int .u16 53, .int .i64 2, .int .u8 0, .bool false, .int .u8 63] 38))).cell? ⟨wH.heap.size, 6, none⟩ = some (.int .u8 0) := d1.at_ 6
          have xd1_7 : ((wJ.alloc (.cells #[.int .u8 1, .int .u32 84281096, .int .u16 0, .int .u32 16909060, .int .u16 53, .int .i64 2, .int .u8 0, .bool false, .int .u8 63] 38))).cell? ⟨wH.heap.size, 7, none⟩ = some (.bool false) := d1.at_ 7
          have xd1_8 : ((wJ.alloc (.cells #[.int .u8 1, .int .u32 84281096, .int .u16 0, .int .u32 16909060, .int .u16 53, .int .i64 2, .int .u8 0, .bool false, .int .u8 63] 38))).cell? ⟨wH.heap.size, 8, none⟩ = some (.int .u8 63) := d1.at_ 8
          go_wp2_with fail
          (with_reducible refine (TX.out _ (HTB.out.below bJ)).mono ?_)
          rintro e wK ⟨rfl, bK⟩
          replace d1 := Cells.below bK d1
          replace d3 := Cells.below bK d3
          replace d4 := Cells.below bK d4
          replace bK : Below w.heap.size w wK := bstep bJ bK
          clear xd1_0 xd1_1 xd1_2 xd1_3 xd1_4 xd1_5 xd1_6 xd1_7 xd1_8
          have xd1_0 : wK.cell? ⟨wH.heap.size, 0, none⟩ = some (.int .u8 17) := d1.at_ 0
          have xd1_1 : wK.cell? ⟨wH.heap.size, 1, none⟩ = some (.int .u32 84281096) := d1.at_ 1
          have xd1_2 : wK.cell? ⟨wH.heap.size, 2, none⟩ = some (.int .u16 9000) := d1.at_ 2
          have xd1_3 : wK.cell? ⟨wH.heap.size, 3, none⟩ = some (.int .u32 16909060) := d1.at_ 3
          have xd1_4 : wK.cell? ⟨wH.heap.size, 4, none⟩ = some (.int .u16 53) := d1.at_ 4
          have xd1_5 : wK.cell? ⟨wH.heap.size, 5, none⟩ = some (.int .i64 2) := d1.at_ 5
          have xd1_6 : wK.cell? ⟨wH.heap.size, 6, none⟩ = some (.int .u8 0) := d1.at_ 6
          have xd1_7 : wK.cell? ⟨wH.heap.size, 7, none⟩ = some (.bool false) := d1.at_ 7
          have xd1_8 : wK.cell? ⟨wH.heap.size, 8, none⟩ = some (.int .u8 63) := d1.at_ 8
          have xd3_0 : wK.cell? ⟨wI.heap.size, 0, none⟩ = some (.int .u8 1) := d3.at_ 0
          have xd3_1 : wK.cell? ⟨wI.heap.size, 1, none⟩ = some (.int .u32 84281096) := d3.at_ 1
          have xd3_2 : wK.cell? ⟨wI.heap.size, 2, none⟩ = some (.int .u16 9000) := d3.at_ 2
          have xd3_3 : wK.cell? ⟨wI.heap.size, 3, none⟩ = some (.int .u32 16909060) := d3.at_ 3
          have xd3_4 : wK.cell? ⟨wI.heap.size, 4, none⟩ = some (.int .u16 0) := d3.at_ 4
          have xd3_5 : wK.cell? ⟨wI.heap.size, 5, none⟩ = some (.int .i64 2) := d3.at_ 5
          have xd3_6 : wK.cell? ⟨wI.heap.size, 6, none⟩ = some (.int .u8 0) := d3.at_ 6
          have xd3_7 : wK.cell? ⟨wI.heap.size, 7, none⟩ = some (.bool true) := d3.at_ 7
          have xd3_8 : wK.cell? ⟨wI.heap.size, 8, none⟩ = some (.int .u8 63) := d3.at_ 8
          have xd4_0 : wK.cell? ⟨wJ.heap.size, 0, none⟩ = some (.int .u8 1) := d4.at_ 0
          have xd4_1 : wK.cell? ⟨wJ.heap.size, 1, none⟩ = some (.int .u32 84281096) := d4.at_ 1
          have xd4_2 : wK.cell? ⟨wJ.heap.size, 2, none⟩ = some (.int .u16 0) := d4.at_ 2
          have xd4_3 : wK.cell? ⟨wJ.heap.size, 3, none⟩ = some (.int .u32 16909060) := d4.at_ 3
          have xd4_4 : wK.cell? ⟨wJ.heap.size, 4, none⟩ = some (.int .u16 53) := d4.at_ 4
          have xd4_5 : wK.cell? ⟨wJ.heap.size, 5, none⟩ = some (.int .i64 2) := d4.at_ 5
          have xd4_6 : wK.cell? ⟨wJ.heap.size, 6, none⟩ = some (.int .u8 0) := d4.at_ 6
          have xd4_7 : wK.cell? ⟨wJ.heap.size, 7, none⟩ = some (.bool false) := d4.at_ 7
          have xd4_8 : wK.cell? ⟨wJ.heap.size, 8, none⟩ = some (.int .u8 63) := d4.at_ 8
          go_wp2_with fail
          go_ret
          exact ⟨rfl, bK⟩

end Go.Proofs.YtpidgmamollmgaaGreatDoor
end

section
/- Packets, changed: plain. No walk. -/
set_option linter.unusedVariables false
namespace Go.Proofs.YtpidgmamollmgaaGreatDoor
open Go.RowKit

theorem updates_mod {n : Int} {a b : List UInt8} (hn : 0 ≤ n ∧ n ≤ 65535) (hz : a.length = b.length) (h2 : a.length % 2 = 0) :
    (updates n a b - (n + tot (words a) - tot (words b))) % 65535 = 0 := by
  have hl : (words a).length = (words b).length := by
    have := words_length h2
    have := words_length (l := b) (by omega)
    omega
  unfold updates
  rw [if_neg (by omega)]
  have h1 := updF_mod ((words a).zip (words b)) n hn zip_bd
  rwa [zip_fst hl, zip_snd hl] at h1

/-! ### lay -/
theorem at_lay {l : List UInt8} {k i : Nat} {n : Int} (h : k + 2 ≤ l.length) (hi : i < k ∨ k + 2 ≤ i) : at_ (lay l k n) i = at_ l i := by
  rcases hi with hi | hi
  · rw [← at_take (n := k) hi, lay_take h, at_take hi]
  · have e1 : at_ ((lay l k n).drop (k + 2)) (i - (k + 2)) = at_ (l.drop (k + 2)) (i - (k + 2)) := by rw [lay_drop h]
    rw [at_drop, at_drop] at e1
    rwa [show k + 2 + (i - (k + 2)) = i from by omega] at e1
theorem app_lay {a l : List UInt8} {k j : Nat} {n : Int} (hk : k = a.length + j) : a ++ lay l j n = lay (a ++ l) k n := by
  subst hk
  unfold lay
  rw [List.take_length_add_append, Nat.add_assoc, List.drop_length_add_append]
  simp
theorem lay_dropd {l : List UInt8} {k m : Nat} {n : Int} (h : k + 2 ≤ l.length) (hm : m ≤ k) : (lay l k n).drop m = lay (l.drop m) (k - m) n := by
  have z : (l.take m).length = m := by simp; omega
  have e : lay l k n = l.take m ++ lay (l.drop m) (k - m) n := by rw [app_lay (k := k) (by rw [z]; omega), List.take_append_drop]
  rw [e]
  exact List.drop_left' z
theorem lay_self {l : List UInt8} {k : Nat} (h : k + 2 ≤ l.length) : lay l k (be16 l k) = l := by
  have e1 : be16 l k = ((l[k].toNat : Int)) * 256 + (l[k + 1].toNat : Int) := by
    simp [be16, at_, List.getD_eq_getElem?_getD, List.getElem?_eq_getElem (show k < l.length by omega), List.getElem?_eq_getElem (show k + 1 < l.length by omega)]
  unfold lay
  rw [e1, put16_be, List.append_assoc]
  conv => rhs; rw [← List.take_append_drop k l, List.drop_eq_getElem_cons (show k < l.length by omega), List.drop_eq_getElem_cons (show k + 1 < l.length by omega)]
  rfl
theorem lay_zero {l : List UInt8} {k : Nat} (h : k + 2 ≤ l.length) : lay l k 0 = (l.set k 0).set (k + 1) 0 := by
  have e : l = l.take k ++ ([l[k], l[k + 1]] ++ l.drop (k + 2)) := by
    conv => lhs; rw [← List.take_append_drop k l, List.drop_eq_getElem_cons (show k < l.length by omega), List.drop_eq_getElem_cons (show k + 1 < l.length by omega)]
    rfl
  have z : (l.take k).length = k := by simp; omega
  unfold lay
  generalize l.take k = u at *
  generalize l.drop (k + 2) = r at *
  generalize l[k] = x at *
  generalize l[k + 1] = y at *
  subst z
  rw [e]
  simp [put16, byt]
theorem ports_self {l : List UInt8} (h : 4 ≤ l.length) : putW [be16 l 0, be16 l 2] ++ l.drop 4 = l := by
  match l, h with
  | a :: b :: c :: d :: r, _ =>
    show putW [(a.toNat : Int) * 256 + (b.toNat : Int), (c.toNat : Int) * 256 + (d.toNat : Int)] ++ r = _
    unfold putW
    simp only [List.flatMap_cons, List.flatMap_nil, put16_be]
    rfl

/-! ### whole packets: a header, and what it says is behind it -/
structure Whole (H P : List UInt8) : Prop where
  own : ipOwn H = (H.length : Int)
  h20 : 20 ≤ H.length
  four : at_ H 0 / 16 = 4
  all : be16 H 2 = (H.length : Int) + P.length
  big : H.length + P.length ≤ 2048
  sum : holds [H] = true
  cut : be16 H 6 = 0 ∨ be16 H 6 = 16384
theorem Whole.h60 {H P : List UInt8} (w : Whole H P) : H.length ≤ 60 := by
  have := w.own
  have := at_bd H 0
  unfold ipOwn at *; omega
def hdL (H : List UInt8) : Hd := ⟨at_ H 1, be16 H 4, decide (be16 H 6 = 16384), at_ H 8, at_ H 9, be32 H 12, be32 H 16, S (H.drop 20)⟩
theorem own_app {H X : List UInt8} (h : 1 ≤ H.length) : ipOwn (H ++ X) = ipOwn H := by unfold ipOwn; rw [at_left (by omega)]
theorem all_app {H X : List UInt8} (h : 20 ≤ H.length) : ipAll (H ++ X) = be16 H 2 := by
  show get16 (H ++ X) ((2 : Nat) : Int) = _
  rw [get16_nat (by simp; omega), be16_left (by omega)]
theorem whole_to {H P : List UInt8} (R : List UInt8) (w : Whole H P) :
    ipWhy (S (H ++ P ++ R)) = 0 ∧ hdOf (S (H ++ P ++ R)) = hdL H ∧ ipRest (S (H ++ P ++ R)) = S P := by
  obtain ⟨h1, h2, h3, h4, h5, h6, h7⟩ := w
  have eo : ipOwn (L (S (H ++ P ++ R))) = H.length := by rw [L_S, List.append_assoc, own_app (by omega), h1]
  have ea : ipAll (L (S (H ++ P ++ R))) = (H.length : Int) + P.length := by rw [L_S, List.append_assoc, all_app h2, h4]
  have ez : (S (H ++ P ++ R)).size = H.length + P.length + R.length := by rw [S_size]; simp; omega
  have et : (L (S (H ++ P ++ R))).take (ipOwn (L (S (H ++ P ++ R)))).toNat = H := by rw [eo, L_S, Int.toNat_natCast, List.append_assoc, List.take_left]
  have e0 : at_ (L (S (H ++ P ++ R))) 0 = at_ H 0 := by rw [L_S, List.append_assoc, at_left (by omega)]
  have e6 : get16 (L (S (H ++ P ++ R))) 6 = be16 H 6 := by
    show get16 _ ((6 : Nat) : Int) = _
    rw [L_S, get16_nat (by simp; omega), List.append_assoc, be16_left (by omega)]
  have hw : ipWhy (S (H ++ P ++ R)) = 0 := by
    unfold ipWhy
    rw [if_neg (by omega), if_neg (by rw [e0]; omega), if_neg, if_neg, if_neg]
    · rw [e6]; omega
    · rw [et, h6]; decide
    · unfold ipFits
      rw [eo, ea, ez]
      simp; omega
  refine ⟨hw, ?_, ?_⟩
  · unfold hdOf hdL
    have f1 : at_ (L (S (H ++ P ++ R))) 1 = at_ H 1 := by rw [L_S, List.append_assoc, at_left (by omega)]
    have f8 : at_ (L (S (H ++ P ++ R))) 8 = at_ H 8 := by rw [L_S, List.append_assoc, at_left (by omega)]
    have f9 : at_ (L (S (H ++ P ++ R))) 9 = at_ H 9 := by rw [L_S, List.append_assoc, at_left (by omega)]
    have f4 : get16 (L (S (H ++ P ++ R))) 4 = be16 H 4 := by
      show get16 _ ((4 : Nat) : Int) = _
      rw [L_S, get16_nat (by simp; omega), List.append_assoc, be16_left (by omega)]
    have f12 : get32 (L (S (H ++ P ++ R))) 12 = be32 H 12 := by
      show get32 _ ((12 : Nat) : Int) = _
      rw [L_S, get32_nat (by simp; omega), List.append_assoc, be32_left (by omega)]
    have f16 : get32 (L (S (H ++ P ++ R))) 16 = be32 H 16 := by
      show get32 _ ((16 : Nat) : Int) = _
      rw [L_S, get32_nat (by simp; omega), List.append_assoc, be32_left (by omega)]
    have fo : (S (H ++ P ++ R)).extract 20 (ipOwn (L (S (H ++ P ++ R)))).toNat = S (H.drop 20) := by
      rw [← S_L ((S (H ++ P ++ R)).extract _ _), L_extract, eo, L_S, Int.toNat_natCast, List.append_assoc, List.drop_append_of_le_length (by omega), List.take_left' (by simp)]
    rw [f1, f8, f9, f4, e6, f12, f16, fo]
  · unfold ipRest
    rw [if_pos hw, ← S_L ((S (H ++ P ++ R)).extract _ _), L_extract, eo, ea, L_S, List.append_assoc, Int.toNat_natCast, List.drop_left, List.take_left' (by omega)]
theorem whole_of {s : ByteArray} (h : ipWhy s = 0) : ∃ H P R, s = S (H ++ P ++ R) ∧ Whole H P := by
  obtain ⟨h20, h2, h3, h4, h5⟩ := ipWhy_0 h
  have f0 : 20 ≤ ipOwn (L s) ∧ ipOwn (L s) ≤ ipAll (L s) ∧ ipAll (L s) ≤ s.size ∧ ipAll (L s) ≤ 2048 := by unfold ipFits at h3; simpa [and_assoc] using h3
  have hz : (L s).length = s.size := L_length s
  have z1 : ((L s).take (ipOwn (L s)).toNat).length = (ipOwn (L s)).toNat := by simp; omega
  have z2 : (((L s).drop (ipOwn (L s)).toNat).take ((ipAll (L s)).toNat - (ipOwn (L s)).toNat)).length = (ipAll (L s)).toNat - (ipOwn (L s)).toNat := by simp; omega
  refine ⟨(L s).take (ipOwn (L s)).toNat, ((L s).drop (ipOwn (L s)).toNat).take ((ipAll (L s)).toNat - (ipOwn (L s)).toNat), (L s).drop (ipAll (L s)).toNat, ?_, ?_, ?_, ?_, ?_, ?_, ?_, ?_⟩
  · have e : (L s).take (ipOwn (L s)).toNat ++ ((L s).drop (ipOwn (L s)).toNat).take ((ipAll (L s)).toNat - (ipOwn (L s)).toNat) ++ (L s).drop (ipAll (L s)).toNat = L s := by
      have q : (L s).drop (ipAll (L s)).toNat = ((L s).drop (ipOwn (L s)).toNat).drop ((ipAll (L s)).toNat - (ipOwn (L s)).toNat) := by
        rw [List.drop_drop]; congr 1; omega
      rw [q, List.append_assoc, List.take_append_drop, List.take_append_drop]
    rw [e, S_L]
  · have : ipOwn ((L s).take (ipOwn (L s)).toNat) = ipOwn (L s) := by
      show at_ ((L s).take _) 0 % 16 * 4 = _
      rw [at_take (by omega)]; rfl
    rw [this, z1]; omega
  · omega
  · rw [at_take (by omega)]; exact h2
  · rw [be16_take (by omega), z1, z2]
    have : ipAll (L s) = be16 (L s) 2 := by show get16 (L s) ((2 : Nat) : Int) = _; exact get16_nat (by omega)
    omega
  · omega
  · exact h4
  · rw [be16_take (by omega)]
    have : get16 (L s) 6 = be16 (L s) 6 := by show get16 (L s) ((6 : Nat) : Int) = _; exact get16_nat (by omega)
    rw [← this]; exact h5

/-! ### a header, changed -/
theorem head_is {H : List UInt8} (a c : Int) (h : 20 ≤ H.length) : headNew H a c = (H.take 8 ++ lifeOf H ++ put16 (headSum H a c)) ++ (put32 a ++ (put32 c ++ H.drop 20)) := by
  unfold headNew ipsOf; simp only [List.append_assoc]
theorem headSum_bd (H : List UInt8) (a c : Int) : 0 ≤ headSum H a c ∧ headSum H a c ≤ 65535 := updates_bd (be16_bd _ _)
theorem headNew_length {H : List UInt8} (a c : Int) (h : 20 ≤ H.length) : (headNew H a c).length = H.length := by
  unfold headNew lifeOf
  simp [put16_length, show (ipsOf a c).length = 8 from rfl]
  omega
theorem head_whole {H P Q : List UInt8} {a c : Int} (w : Whole H P) (ha : 0 ≤ a ∧ a ≤ 4294967295) (hc : 0 ≤ c ∧ c ≤ 4294967295) (h8 : 1 ≤ at_ H 8) (hq : Q.length = P.length) :
    Whole (headNew H a c) Q ∧ at_ (headNew H a c) 8 = at_ H 8 - 1 ∧ at_ (headNew H a c) 9 = at_ H 9 ∧ be32 (headNew H a c) 12 = a ∧ be32 (headNew H a c) 16 = c := by
  obtain ⟨h1, h2, h3, h4, h5, h6, h7⟩ := w
  have hz := headNew_length a c h2
  have hm := headSum_bd H a c
  have hu : (headSum H a c - (be16 H 10 + tot (words ((H.drop 8).take 2 ++ (H.drop 12).take 8)) - tot (words (lifeOf H ++ ipsOf a c)))) % 65535 = 0 :=
    updates_mod (be16_bd _ _) (by simp [lifeOf, show (ipsOf a c).length = 8 from rfl]; omega) (by simp; omega)
  have e12 : be32 (headNew H a c) 12 = a := by
    rw [head_is a c h2, be32_right (by simp [lifeOf, put16_length]; omega)]
    rw [show 12 - (H.take 8 ++ lifeOf H ++ put16 (headSum H a c)).length = 0 from by simp [lifeOf, put16_length]; omega]
    exact be32_put a _ ha.1 ha.2
  have e16 : be32 (headNew H a c) 16 = c := by
    rw [head_is a c h2, ← List.append_assoc, be32_right (by simp [lifeOf, put16_length, put32_length]; omega)]
    rw [show 16 - (H.take 8 ++ lifeOf H ++ put16 (headSum H a c) ++ put32 a).length = 0 from by simp [lifeOf, put16_length, put32_length]; omega]
    exact be32_put c _ hc.1 hc.2
  rw [holds_iff] at h6
  rw [head_is a c h2] at hz ⊢
  rw [head_is a c h2] at e12 e16
  generalize headSum H a c = m at *
  obtain ⟨b0, b1, b2, b3, b4, b5, b6, b7, b8, b9, b10, b11, b12, b13, b14, b15, b16, b17, b18, b19, o, rfl⟩ := twenty h2
  have g8 : 1 ≤ (b8.toNat : Int) := h8
  have q8 : ((byt ((b8.toNat : Int) - 1)).toNat : Int) = (b8.toNat : Int) - 1 := by
    have := b8.toNat_lt
    rw [byt_int _ (by omega)]; omega
  have hA : tot (words (put32 a ++ (put32 c ++ o))) = a / 65536 + (a % 65536 + (c / 65536 + (c % 65536 + tot (words o)))) := by
    unfold put32
    rw [List.append_assoc, List.append_assoc, words_put _ _ (by omega), words_put _ _ (by omega), words_put _ _ (by omega), words_put _ _ (by omega)]
    rfl
  have hB : tot (words (ipsOf a c)) = a / 65536 + (a % 65536 + (c / 65536 + (c % 65536 + 0))) := by
    unfold ipsOf put32
    rw [List.append_assoc, words_put _ _ (by omega), words_put _ _ (by omega), words_put _ _ (by omega), ← List.append_nil (put16 (c % 65536)), words_put _ _ (by omega)]
    rfl
  have tH : tot (words (b0 :: b1 :: b2 :: b3 :: b4 :: b5 :: b6 :: b7 :: b8 :: b9 :: b10 :: b11 :: b12 :: b13 :: b14 :: b15 :: b16 :: b17 :: b18 :: b19 :: o)) = ((b0.toNat : Int) * 256 + (b1.toNat : Int)) + (((b2.toNat : Int) * 256 + (b3.toNat : Int)) + (((b4.toNat : Int) * 256 + (b5.toNat : Int)) + (((b6.toNat : Int) * 256 + (b7.toNat : Int)) + (((b8.toNat : Int) * 256 + (b9.toNat : Int)) + (((b10.toNat : Int) * 256 + (b11.toNat : Int)) + (((b12.toNat : Int) * 256 + (b13.toNat : Int)) + (((b14.toNat : Int) * 256 + (b15.toNat : Int)) + (((b16.toNat : Int) * 256 + (b17.toNat : Int)) + (((b18.toNat : Int) * 256 + (b19.toNat : Int)) + tot (words o)))))))))) := rfl
  have tN : tot (words ((b0 :: b1 :: b2 :: b3 :: b4 :: b5 :: b6 :: b7 :: byt ((b8.toNat : Int) - 1) :: b9 :: (put16 m ++ (put32 a ++ (put32 c ++ o)))))) = ((b0.toNat : Int) * 256 + (b1.toNat : Int)) + (((b2.toNat : Int) * 256 + (b3.toNat : Int)) + (((b4.toNat : Int) * 256 + (b5.toNat : Int)) + (((b6.toNat : Int) * 256 + (b7.toNat : Int)) + ((((byt ((b8.toNat : Int) - 1)).toNat : Int) * 256 + (b9.toNat : Int)) + (m + (a / 65536 + (a % 65536 + (c / 65536 + (c % 65536 + tot (words o)))))))))) := by
    rw [← hA, ← tot_cons m, ← words_put m _ hm]; rfl
  have tO : tot (words (lifeOf (b0 :: b1 :: b2 :: b3 :: b4 :: b5 :: b6 :: b7 :: b8 :: b9 :: b10 :: b11 :: b12 :: b13 :: b14 :: b15 :: b16 :: b17 :: b18 :: b19 :: o) ++ ipsOf a c)) = (((byt ((b8.toNat : Int) - 1)).toNat : Int) * 256 + (b9.toNat : Int)) + (a / 65536 + (a % 65536 + (c / 65536 + (c % 65536 + 0)))) := by
    rw [← hB]; rfl
  have tI : tot (words (((b0 :: b1 :: b2 :: b3 :: b4 :: b5 :: b6 :: b7 :: b8 :: b9 :: b10 :: b11 :: b12 :: b13 :: b14 :: b15 :: b16 :: b17 :: b18 :: b19 :: o).drop 8).take 2 ++ ((b0 :: b1 :: b2 :: b3 :: b4 :: b5 :: b6 :: b7 :: b8 :: b9 :: b10 :: b11 :: b12 :: b13 :: b14 :: b15 :: b16 :: b17 :: b18 :: b19 :: o).drop 12).take 8)) = ((b8.toNat : Int) * 256 + (b9.toNat : Int)) + (((b12.toNat : Int) * 256 + (b13.toNat : Int)) + (((b14.toNat : Int) * 256 + (b15.toNat : Int)) + (((b16.toNat : Int) * 256 + (b17.toNat : Int)) + (((b18.toNat : Int) * 256 + (b19.toNat : Int)) + 0)))) := rfl
  have e10 : be16 (b0 :: b1 :: b2 :: b3 :: b4 :: b5 :: b6 :: b7 :: b8 :: b9 :: b10 :: b11 :: b12 :: b13 :: b14 :: b15 :: b16 :: b17 :: b18 :: b19 :: o) 10 = (b10.toNat : Int) * 256 + (b11.toNat : Int) := rfl
  have h64 : 64 ≤ (b0.toNat : Int) := by
    have : (b0.toNat : Int) / 16 = 4 := h3
    omega
  have n0 := tot_nonneg (words_bd o)
  simp only [List.flatMap_cons, List.flatMap_nil, List.append_nil] at h6
  rw [tI, tO, e10] at hu
  rw [tH] at h6
  refine ⟨⟨?_, ?_, ?_, ?_, ?_, ?_, ?_⟩, ?_, ?_, e12, e16⟩
  · rw [hz]; exact h1
  · omega
  · exact h3
  · rw [hz, hq]; exact h4
  · rw [hz, hq]; exact h5
  · rw [holds_iff]
    simp only [List.flatMap_cons, List.flatMap_nil, List.append_nil]
    show tot (words ((b0 :: b1 :: b2 :: b3 :: b4 :: b5 :: b6 :: b7 :: byt ((b8.toNat : Int) - 1) :: b9 :: (put16 m ++ (put32 a ++ (put32 c ++ o)))))) % 65535 = 0 ∧ tot (words ((b0 :: b1 :: b2 :: b3 :: b4 :: b5 :: b6 :: b7 :: byt ((b8.toNat : Int) - 1) :: b9 :: (put16 m ++ (put32 a ++ (put32 c ++ o)))))) ≠ 0
    rw [tN]
    have := b1.toNat_lt; have := b9.toNat_lt
    omega
  · exact h7
  · exact q8
  · rfl
end Go.Proofs.YtpidgmamollmgaaGreatDoor
end
