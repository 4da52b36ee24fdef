/- Several texts of this claim, one behind the other. -/
import Derived.Test.YtpidgmamollmgaaDoorM22
import Derived.Test.YtpidgmamollmgaaDoorM17

section
/- The document's answer for ip (porterref04) over this program: what may not hold, and what does. -/
set_option linter.unusedVariables false
set_option linter.unusedSimpArgs false
namespace Go.Proofs.YtpidgmamollmgaaDoor
open Go.RowKit
attribute [local go_sem] Oper.semAt_some

end Go.Proofs.YtpidgmamollmgaaDoor
end

section
/- ip.Parse and porterref04.Parse over this program: every text. -/
set_option linter.unusedVariables false
namespace Go.Proofs.YtpidgmamollmgaaDoor
open Go.RowKit

theorem ip_Parse (s : ByteArray) (w : World) (hs : s.size ≤ 140737488351232) :
    Calls Tryd.prog 14 #[.string s] w (Ret (.tuple #[.agg (hdRes s).cells, .string (ipRest s), .int .i64 (ipWhy s)]) w) := by
  unfold hdRes ipRest
  by_cases h1 : s.size < 20
  · rw [show ipWhy s = 1 from by unfold ipWhy; rw [if_pos h1], if_neg (by decide), if_neg (by decide)]
    exact i_Parse_1 s w h1
  by_cases h2 : at_ (L s) 0 / 16 ≠ 4
  · rw [show ipWhy s = 2 from by unfold ipWhy; rw [if_neg h1, if_pos h2], if_neg (by decide), if_neg (by decide)]
    exact i_Parse_2 s w hs (by omega) h2
  by_cases h3 : ipFits s = false
  · rw [show ipWhy s = 3 from by unfold ipWhy; rw [if_neg h1, if_neg h2, if_pos h3], if_neg (by decide), if_neg (by decide)]
    exact i_Parse_3 s w hs (by omega) (by omega) h3
  by_cases h4 : holds [(L s).take (ipOwn (L s)).toNat] = false
  · rw [show ipWhy s = 4 from by unfold ipWhy; rw [if_neg h1, if_neg h2, if_neg h3, if_pos h4], if_neg (by decide), if_neg (by decide)]
    exact i_Parse_4 s w hs (by omega) (by omega) (by simpa using h3) h4
  rw [show ipWhy s = if get16 (L s) 6 ≠ 0 ∧ get16 (L s) 6 ≠ 16384 then 5 else 0 from by unfold ipWhy; rw [if_neg h1, if_neg h2, if_neg h3, if_neg h4]]
  replace h1 : 20 ≤ s.size := by omega
  replace h2 : at_ (L s) 0 / 16 = 4 := by omega
  replace h3 : ipFits s = true := by simpa using h3
  replace h4 : holds [(L s).take (ipOwn (L s)).toNat] = true := by simpa using h4
  · skip
    have c := i_Parse_5 s w hs h1 h2 h3 h4
    by_cases h5 : get16 (L s) 6 ≠ 0 ∧ get16 (L s) 6 ≠ 16384
    · rw [if_pos h5] at c ⊢; rw [if_neg (by decide), if_neg (by decide)]; exact c
    · rw [if_neg h5] at c ⊢; rw [if_pos rfl, if_pos rfl]; exact c

theorem ip_Parse_no (s : ByteArray) (k : Int) (w : World) (hs : s.size ≤ 140737488351232) (hk : k ≠ 0) (h : ipWhy s = k) :
    Calls Tryd.prog 14 #[.string s] w (Ret (.tuple #[hdZero, .string { data := #[] }, .int .i64 k]) w) := by
  have c := ip_Parse s w hs
  rw [show hdRes s = hdNone from by unfold hdRes; rw [if_neg (by omega)], show ipRest s = { data := #[] } from by unfold ipRest; rw [if_neg (by omega)], h] at c
  exact c

end Go.Proofs.YtpidgmamollmgaaDoor
end
