/- ABSTRACT VALUES: an operation's walk is as the machine's. -/
import Derived.Test.YtniibgdokfnomaaGreatAvMp
namespace Go.Av
open Go Go.RowKit
set_option linter.unusedSimpArgs false
set_option linter.unusedVariables false

section
variable {P:Program} {T:Tab} {C:Contract} {B:Fr} {N:Nat} {L:Nat→Prop} {w₀ w:World} {s:St} {a:Act} {S:Nat→Prop} {g:Nat→OG} {id:Nat} {K:AV→Ups→Prop} {o:Oper} {Q:Exit→Act→World→Prop} {X:List Nat}

theorem stepR_sound (hT:TOk P T) (hP:B.I P) (R:Rel B N w₀ L s a w S g []) (hF:Fresh L id) (h:stepR (Con P) T o (evA T s) (find s.mem) id K):Goal P B N w₀ L s a w id K o Q:=by
 have h':=h
 unfold stepR at h'
 split at h'
 ·rename_i x ho;exact sound_move R ho h
 ·rename_i x ho;exact sound_assign R ho h
 ·rename_i c x y ho;exact sound_pick R ho h
 ·rename_i t ho;exact sound_alloc hT R hF ho h
 ·rename_i t x ho;exact sound_box R hF ho h
 ·rename_i t ps ho;exact sound_build hT R ho h
 ·rename_i t n ps ho;exact sound_buildSlice hT R hF ho h
 ·rename_i t x ho;exact sound_load hT R ho h
 ·rename_i x ho;exact sound_nilCheck R ho h
 ·rename_i op t x y t' ho;exact sound_binOp hT R ho h
 ·rename_i op t x ho;exact sound_unOp R ho h
 ·rename_i t t' x ho;exact sound_convert hT R hF ho h
 ·rename_i f caps ho;exact sound_makeFunc R ho h
 ·rename_i t l c ho;exact sound_makeSlice hT R hF ho h
 ·rename_i t ho;exact sound_makeMap hT R hF ho h
 ·rename_i t x k y ho;exact sound_mapUpdate hT R ho h
 ·rename_i t x k ho;exact sound_lookup hT R ho h
 ·rename_i t x lo hi ho;exact sound_slice hT R ho h
 ·rename_i t x f ho;exact sound_fieldAddr hT R ho h
 ·rename_i t x f ho;exact sound_field hT R ho h
 ·rename_i t x ix ho;exact sound_indexAddr hT R ho h
 ·rename_i t x ix ho;exact sound_index hT R ho h
 ·rename_i x i ho;exact sound_extract R ho h
 ·rename_i x t ho;exact sound_len hT R ho h
 ·rename_i x y t t' ho;exact sound_append hT R hF ho h
 ·rename_i xs ts ho;exact sound_min R ho h
 ·rename_i xs ts ho;exact sound_max R ho h
 ·rename_i f xs ts ho;exact sound_callT hP R hF ho h
 ·exact h'.elim

end

end Go.Av
