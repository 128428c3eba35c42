/- ABSTRACT VALUES: slices.Clone over data. -/
import Derived.Test.YtniibgdokfnomaaGreatAvTc
import Derived.Laws.AppendOwn
import Derived.Shelf.SlicesE.Clone
namespace Go.Av
open Go Go.Gx Go.RowKit
set_option linter.unusedVariables false
set_option linter.unusedSimpArgs false

open Go.Shelf Go.Lib Go.Proofs in
set_option maxHeartbeats 2000000 in
set_option maxRecDepth 100000 in
/-- a slice of length 0 that is not nil, whatever its address -/
theorem clone_zero {P:Program} {ρ:Ren} (L:SlLaysE0.n41 P ρ) (i0:TypeInfo) (z:Value) (size bytes:Nat) (hi:P.info? (ρ.t 23)=some i0) (hz0:i0.zero=some z) (hz1:i0.size=size) (hz2:i0.bytes=bytes) (hzs:z.cells.size=size) (hsz:0<size)
  (z23:∀w,(Go.sizeOf (ρ.t 23)).run P w=.ok size w) (a:Addr) (c:Nat) (w:World):
  Calls P (ρ.f 41) #[.slice (some a) 0 c] w fun e w'=>∃v',e=.returned v'∧w'.ownsRow w.heap.size (ρ.t 23) size v' 0 []∧v'≠.slice none 0 0∧Below w.heap.size w w':=by
 have mixed:=L.mixed;have t4:=L.t4;have a4:=L.a4;have z4:=L.z4;have v4:=L.v4;have t22:=L.t22;have a22:=L.a22;have z22:=L.z22;have v22:=L.v22
 have q22:∀(w:World) (a:Option Addr) (n c n' c':Nat),(binOp .eql (ρ.t 22) (.slice a n c) (.slice none n' c')).run P w=.ok (.bool a.isNone) w:=fun w a n c n' c'=>Lib.run_eql_slice_nil w _ _ a n c n' c' L.t22
 have u22:∀w,Sem.run P (underlying (ρ.t 22)) w=.ok (TypeDesc.slice (ρ.t 23)) w:=run_underlying t22
 obtain ⟨_,_,FG⟩:=L.f41
 go_enter FG,SlBodyN.n41_ntmps ρ
 go_wp2_with (at_builtin;refine wpList_append_own _ rfl _ _ (ρ.t 22) rfl w.heap.size (ρ.t 23) i0 z size bytes t22 hi hz0 hz1 hz2 hzs hsz _ _ _ rfl (World.ownsRow_made w #[] 0 (Nat.le_refl _) (Nat.zero_le _) (by simp)) a 0 c [] rfl ?qc1 ?qc2 ?qc3 ?qc4 ?qc5 ?qc6 ?_)
 case qc1=>simp
 case qc2=>intro j u hj;simp at hj
 case qc3=>intro u hu;cases hu
 case qc4=>unfold maxLen;omega
 case qc5=>omega
 case qc6=>simp
 intro v' w1 hown hgrow hnil
 go_wp2
 go_ret
 refine ⟨v',rfl,by simpa using hown,hnil,?_⟩
 exact ((Below.refl _ w).alloc (Nat.le_refl _) _).grown hgrow (by simp) (by intro k hk;simp [Value.ownBlock] at hk;omega)

theorem pure_clone {P:Program} {F:FuncId} {e:TypeId} {size bytes:Nat} (hsz:0<size) (hfn:∃fn,P.funcs[F]?=some fn∧(fn.name == "runtime.NumGoroutine")=false∧fn.body.isNone=false)
  (h0:∀(n c:Nat) (w:World),Calls P F #[.slice none n c] w fun e w'=>e=.returned (.slice none 0 0)∧w'=w)
  (h1:∀(b off n c:Nat) (news:List Value) (w:World),news.length=n * size→n≤maxLen→n * bytes≤140737488355328→(∀j u,news[j]?=some u→w.cell? ⟨b,off+j,none⟩=some u)→(∀u∈news,u.oneCell'=true)→
   Calls P F #[.slice (some ⟨b,off,none⟩) n c] w fun ev w'=>∃v',ev=.returned v'∧w'.ownsRow w.heap.size e size v' n news∧v'≠.slice none 0 0∧Below w.heap.size w w')
  (h2:∀(a:Addr) (c:Nat) (w:World),Calls P F #[.slice (some a) 0 c] w fun ev w'=>∃v',ev=.returned v'∧w'.ownsRow w.heap.size e size v' 0 []∧v'≠.slice none 0 0∧Below w.heap.size w w')
  (rows:List (List D)) (hflat:flatRows rows) (hN:rows.length≤274877906944) (hb:bytes≤512):
  Pure P F [.one (.sl size rows)] (.one (.sl size rows)):=by
 refine ⟨hfn,fun w vs _ hargs=>?_⟩
 obtain ⟨hl,hin⟩:=hargs
 match vs,hl with
 | [v0],_=>
 have d0:RV (·<w.heap.size) (hp w) noG (fun _=>none) (fun _=>False) (.d (.sl size rows)) v0:=hin 0 (by simp)
 have hbig:rows.length * bytes≤140737488355328:=by
  have:rows.length * bytes≤274877906944 * 512:=Nat.mul_le_mul hN hb
  omega
 have fin:∀{b off c:Nat} {news:List Value},news.length=rows.length * size→(∀r∈rows,r.length=size)→(∀j u,news[j]?=some u→w.cell? ⟨b,off+j,none⟩=some u)→(∀u∈news,u.oneCell'=true)→
   (∀i,i<rows.length * size→rows.flatten.getD i default=.v (news.getD i undef))→
   Calls P F ⟨[.slice (some ⟨b,off,none⟩) rows.length c]⟩ w fun
    | .returned v,w'=>Below w.heap.size w w'∧∃fp,OwnV (hp w') (.one (.sl size rows)) v fp∧fp.Nodup∧∀b∈fp,w.heap.size≤b∧b<w'.heap.size
    | _,_=>False:=by
  intro b off c news hnl hrow hc hone hdat
  refine Calls.mono (h1 b off rows.length c news w hnl (by unfold maxLen;omega) hbig hc hone) ?_
  rintro ev w' ⟨v',rfl,hown,hnn,hbel⟩
  refine ⟨hbel,?_⟩
  obtain ⟨_,hown⟩:=hown
  rcases hown with ⟨h,_⟩ | ⟨g,cap,cur,rfl,hg,hcell,hn,hcap,hcs,htk⟩
  ·exact absurd h hnn
  ·have hgs:g<w'.heap.size:=(Array.getElem?_eq_some_iff.1 hcell).1
   have hcur:∀i,i<rows.length * size→cur.getD i undef=news.getD i undef:=by
    intro i hi
    rw [← htk,getD_take _ _ _ _ hi]
    simp [List.getD_eq_getElem?_getD]
   have hrep:(List.replicate (rows.length * size) ([]:List Nat)).flatten=[]:=by simp
   refine ⟨g::(List.replicate (rows.length * size) ([]:List Nat)).flatten,.one _ _ _ (.sl size rows g cap cur e (0,0) (List.replicate (rows.length * size) []) hcell ?_ hsz hrow hn hcap hcs (by simp) fun i hi=>?_),by rw [hrep];simp,fun x hx=>?_⟩
   ·intro i _ hc;have h1:=hc.1;have h2:=hc.2;simp at h2
   ·have er:(List.replicate (rows.length * size) ([]:List Nat)).getD i []=[]:=by simp only [List.getD_eq_getElem?_getD,List.getElem?_replicate];split <;> rfl
    rw [er,hdat i hi,hcur i hi]
    refine .v _ (hone _ ?_)
    rw [List.getD_eq_getElem?_getD,List.getElem?_eq_getElem (by omega)]
    exact List.getElem_mem _
   ·rw [hrep] at hx;simp at hx;subst hx;exact ⟨hg,hgs⟩
 cases d0 with
 | d _ _ hd=>
  cases hd with
  | nil k oa cap=>
   cases oa with
   | none=>
    refine Calls.mono (h0 0 cap w) ?_
    rintro e w' ⟨rfl,rfl⟩
    exact ⟨Below.refl _ _,[],.one _ _ _ (.nil size none),by simp,by simp⟩
   | some a=>
    refine Calls.mono (h2 a cap w) ?_
    rintro ev w' ⟨v',rfl,hown,hnn,hbel⟩
    refine ⟨hbel,?_⟩
    obtain ⟨_,hown⟩:=hown
    rcases hown with ⟨h,_⟩ | ⟨g,cap,cur,rfl,hg,hcell,hn,hcap,hcs,htk⟩
    ·exact absurd h hnn
    ·have hgs:g<w'.heap.size:=(Array.getElem?_eq_some_iff.1 hcell).1
     refine ⟨[g],.one _ _ _ (.sl size [] g cap cur e (0,0) [] hcell ?_ hsz (by simp) hn hcap hcs (by simp) (by simp)),by simp,fun x hx=>by simp at hx;subst hx;exact ⟨hg,hgs⟩⟩
     intro i _ hc;have h1:=hc.1;have h2:=hc.2;simp at h2
  | sl k rows b off cap cs e' fr hS hb' hk hrow hcap hfit hdat=>
   have hv:∀i,i<rows.length * size→∃v,rows.flatten.getD i default=.v v∧cs.getD (off+i) undef=v∧v.oneCell'=true:=by
    intro i hi
    have q:=hdat i hi
    have hi':i<rows.flatten.length:=by rw [flatten_length hrow];omega
    have eg:rows.flatten.getD i default=rows.flatten[i]:=by rw [List.getD_eq_getElem?_getD,List.getElem?_eq_getElem hi'];rfl
    obtain ⟨r,hr,hx⟩:=List.mem_flatten.1 (List.getElem_mem hi')
    obtain ⟨v,hv⟩:=hflat r hr _ hx
    rw [eg,hv] at q ⊢
    generalize cs.getD (off+i) undef=u at q
    cases q with
    | v _ h1=>exact ⟨_,rfl,rfl,h1⟩
   refine fin (news:=(List.range (rows.length * size)).map fun i=>cs.getD (off+i) undef) (by simp) hrow (fun j u hu=>?_) (fun u hu=>?_) (fun i hi=>?_)
   ·rw [List.getElem?_map] at hu
    have hj:j<rows.length * size:=by
     refine Classical.byContradiction fun hc=>?_
     rw [List.getElem?_eq_none (by simpa using hc)] at hu;simp at hu
    rw [List.getElem?_eq_getElem (by simpa using hj)] at hu
    simp at hu;subst hu
    rw [cell_at hb' (by omega)]
    simp
   ·obtain ⟨i,hi,rfl⟩:=List.mem_map.1 hu
    obtain ⟨v,_,e2,e3⟩:=hv i (by simpa using hi)
    rw [e2];exact e3
   ·obtain ⟨v,e1,e2,e3⟩:=hv i hi
    rw [e1];congr 1
    rw [List.getD_eq_getElem?_getD,List.getElem?_map,List.getElem?_eq_getElem (by simpa using hi)]
    simp [← e2,List.getD_eq_getElem?_getD]

open Go.Shelf Go.Lib Go.Proofs in
theorem pure_cloneL {P:Program} {ρ:Ren} (L:SlLaysE0.n41 P ρ) {F:FuncId} (hF:ρ.f 41=F) {i:TI} {e:TypeId} (he:ρ.t 23=e) (H:TypeOk P e i) (hfn:∃fn,P.funcs[F]?=some fn∧(fn.name == "runtime.NumGoroutine")=false∧fn.body.isNone=false)
  {k:Nat} (hk:i.size=k) (rows:List (List D)) (hflat:flatRows rows) (hN:rows.length≤274877906944) (hb:i.bytes≤512):Pure P F [.one (.sl k rows)] (.one (.sl k rows)):=by
 subst hF;subst he;subst hk
 obtain ⟨info,d,z,q1,q2,q3,q4,q5,q6,_⟩:=H.ex
 have hz:z.cells.size=i.size:=by rw [q6];exact H.zl
 exact pure_clone H.pos hfn (fun n c w=>AnyE.slices_Clone_nil L n c w)
  (fun b off n c news w a1 a2 a3 a4 a5=>AnyE.slices_Clone L info z i.size i.bytes q1 q5 q3 q4 hz H.pos H.run_size b off n c news w a1 a2 a3 a4 a5)
  (fun a c w=>clone_zero L info z i.size i.bytes q1 q5 q3 q4 hz H.pos H.run_size a c w) rows hflat hN hb

end Go.Av
