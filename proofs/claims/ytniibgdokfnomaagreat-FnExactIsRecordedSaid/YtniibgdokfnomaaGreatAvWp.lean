/- ABSTRACT VALUES: the walk as a structure of rules, so that no step of a proof looks into its definition. -/
import Derived.Test.YtniibgdokfnomaaGreatAvTc
namespace Go.Av
open Go
set_option linter.unusedVariables false

def kSeq (K:Ex→St→Prop) (M:St→Prop):Ex→St→Prop:=fun e s=>match e with | .normal=>∃s₁,Wk s s₁∧M s₁ | .exit i=>K (.exit i) s | .ret=>K .ret s
def kBlock (K:Ex→St→Prop) (id:Nat):Ex→St→Prop:=fun e s=>match e with
 | .normal=>K .normal s
 | .ret=>K .ret s
 | .exit i=>match Nat.beq i id with | true=>K .normal s | false=>K (.exit i) s
def kLoop (K:Ex→St→Prop) (I:Nat→St→Prop) (n:Nat):Ex→St→Prop:=fun e s'=>match e with
 | .normal=>∃n' s₁,n'<n∧Weak s' s₁∧I n' s₁
 | .exit i=>K (.exit i) s'
 | .ret=>K .ret s'
def condP (env:List (Nat×AV)) (t:Nat) (a b:Bool→Prop):Prop:=
 match look env t with
 | .d (.v (.bool t'))=>br t' (a true) (b false)
 | _=>False
/-- what the text alone says of a drawn region, once: who surely goes before whom, and that no slot clashes -/
def dd:List Nat→List Nat
 | []=>[]
 | x::r=>match memN x r with | true=>dd r | false=>x::dd r
def statGo (ops:List Oper):Nat→List Oper→List Rec→Option (List Rec)
 | _,[],recs=>some recs
 | i,o::r,recs=>match befOf recs i o.after.toList with
  | some bef=>match okRec bef (guardTmp ops o++tmpsL (opnds o.op)) o.dst [] [] recs with
   | true=>statGo ops (i+1) r (⟨i,dd bef,guardTmp ops o++tmpsL (opnds o.op),o.dst,[],[]⟩::recs)
   | false=>none
  | none=>none
def statOk (ops:List Oper):Bool:=(statGo ops 0 ops []).isSome
/-- the first i of them -/
def statAt (ops:List Oper) (i:Nat):List Rec:=(statGo ops 0 (ops.take i) []).getD []
/-- who surely goes before i -/
def befS (ops:List Oper) (i:Nat) (o:Oper):List Nat:=(befOf (statAt ops i) i o.after.toList).getD []
/-- an object's clash: only with those that surely went before -/
def dynRec (ops:List Oper) (i:Nat) (o:Oper) (rd dom:List Nat):List Rec→Bool
 | []=>true
 | j::r=>match interN j.dom rd,interN j.rd dom,interN j.dom dom with
  | false,false,false=>dynRec ops i o rd dom r
  | _,_,_=>match o.after.toList.any (fun e=>match Region.binds .any e with | true=>Nat.beq e.on j.i | false=>false) with
   | true=>dynRec ops i o rd dom r
   | false=>match memN j.i (befS ops i o) with
    | true=>dynRec ops i o rd dom r
    | false=>false
def drwP (T:Tab) (C:Contract) (ops:List Oper) (i:Nat) (o:Oper) (recs:List Rec) (N:List Rec→St→Prop) (s:St):Prop:=
 guardA ops s o
  (fun s=>forceN (readsOf o s) fun rd=>forceId s.next fun nx=>stepX C T o (evA T s) (restr rd (find s.mem)) (nx+stride * i) fun v u=>forceN (domU u) fun dom=>
   match dynRec ops i o rd dom recs with
   | true=>s.putD o.dst v u (N (match rd,dom with | [],[]=>recs | rd,dom=>⟨i,[],[],none,rd,dom⟩::recs))
   | false=>False)
  (fun s=>s.putD o.dst (.tup []) [] (N recs))
def drwE (i:Nat) (K:St→Prop):St→Prop
 | ⟨env,mem,next⟩=>match next+stride * i with | 0=>K ⟨env,mem,0⟩ | n+1=>K ⟨env,mem,n+1⟩

structure WP (C:Contract) (T:Tab) where
 run:Code→(Ex→St→Prop)→St→Prop
 ops:List Oper→List Oper→(St→Prop)→St→Prop
 drw:List Oper→Nat→List Oper→List Rec→(St→Prop)→St→Prop
 r_skip:∀{K s},K .normal s→run .skip K s
 r_text:∀{id l K s},ops l l (K .normal) s→run (.region id ⟨l⟩ false) K s
 r_draw:∀{id l K s},statOk l=true→drw l 0 l [] (K .normal) s→run (.region id ⟨l⟩ true) K s
 r_seq:∀{a b K s},run a (kSeq K (run b K)) s→run (.seq a b) K s
 r_cut:∀{a b K s} {τ:Type} (st:τ→St) (Z:τ→Prop),run a (kSeq K fun s₁=>∃t,Z t∧s₁=st t) s→(∀t,Z t→run b K (st t))→run (.seq a b) K s
 r_cond:∀{t a b K env mem next},condP env t (fun v=>run a K ⟨(t,.d (.v (.bool v)))::env,mem,next⟩) (fun v=>run b K ⟨(t,.d (.v (.bool v)))::env,mem,next⟩)→run (.cond (.tmp t) a b) K ⟨env,mem,next⟩
 r_block:∀{id c K s},run c (kBlock K id) s→run (.block id c) K s
 r_loop:∀{c K s},(∃I:Nat→St→Prop,(∃n s₀,Weak s s₀∧I n s₀)∧∀n s₀,I n s₀→run c (kLoop K I n) s₀)→run (.loop c) K s
 r_exit:∀{id K s},K (.exit id) s→run (.exit id) K s
 r_ret:∀{K s},K .ret s→run .ret K s
 o_nil:∀{l K s},K s→ops l [] K s
 o_step:∀{l o r K s},guardA l s o (fun s=>stepA C T o s (ops l r K)) (fun s=>s.put o.dst (.tup []) [] (ops l r K))→ops l (o::r) K s
 d_nil:∀{l i recs K s},drwE i K s→drw l i [] recs K s
 d_step:∀{l i o r recs K s},drwP T C l i o recs (fun recs=>drw l (i+1) r recs K) s→drw l i (o::r) recs K s


def drawGo2 (C:Contract) (T:Tab) (ops:List Oper):Nat→List Oper→List Rec→(St→Prop)→St→Prop
 | i,[],_,K,s=>drwE i K s
 | i,o::r,recs,K,s=>drwP T C ops i o recs (fun recs=>drawGo2 C T ops (i+1) r recs K) s

theorem stepX_imp {C:Contract} {T:Tab} {o:Oper} {ρ:TypeId→Operand→AV} {m:Nat→Option AO} {id:Nat} {K K':AV→Ups→Prop} (h:stepX C T o ρ m id K) (hk:∀v u,K v u→K' v u):stepX C T o ρ m id K':=by
 obtain ⟨v,u,hv,hd⟩:=stepX_det (m':=m) (fun _ _ h=>h) h
 exact hd _ (hk _ _ hv)
theorem guardA_imp {ops:List Oper} {s:St} {o:Oper} {y y' n n':St→Prop} (h:guardA ops s o y n) (hy:∀s,y s→y' s) (hn:∀s,n s→n' s):guardA ops s o y' n':=by
 unfold guardA at h ⊢
 split at h
 ·exact hy _ h
 ·rename_i j want _
  split at h
  ·split at h
   ·obtain ⟨env,mem,next⟩:=s
    simp only at h ⊢
    split at h
    ·rename_i b _
     cases b <;> cases want <;> simp only [br] at h ⊢ <;> first | exact hy _ h | exact hn _ h
    ·exact hn _ h
    ·exact h.elim
   ·exact h.elim
  ·exact h.elim

def strip (r:Rec):Rec:=⟨r.i,r.bef,r.tm,r.dst,[],[]⟩
def thinR:List Rec→List Rec
 | []=>[]
 | r::l=>match r.rd,r.dom with | [],[]=>thinR l | rd,dom=>⟨r.i,[],[],none,rd,dom⟩::thinR l

def mm (l:List Nat):Nat→Bool:=fun x=>memN x l
theorem mm_dd:∀l:List Nat,mm (dd l)=mm l
 | []=>rfl
 | x::r=>by
  funext y
  have ih:=congrFun (mm_dd r) y
  simp only [mm] at ih
  simp only [mm,dd]
  split
  ·rename_i h
   rw [ih]
   simp only [memN]
   split
   ·rename_i e;rw [← Nat.eq_of_beq_eq_true e,h]
   ·rfl
  ·simp only [memN]
   split
   ·rfl
   ·exact ih
def nrm (r:Rec):Nat×(Nat→Bool)×List Nat×Option Nat:=(r.i,mm r.bef,r.tm,r.dst)
theorem nrm_strip (r:Rec):nrm (strip r)=nrm r:=rfl
theorem mm_append (a b:List Nat):mm (a++b)=fun x=>mm a x || mm b x:=by
 funext x
 simp only [mm]
 induction a with
 | nil=>rfl
 | cons y a ih=>simp only [List.cons_append,memN];split <;> simp [ih]
theorem mm_cons {x:Nat} {a b:List Nat} (h:mm a=mm b):mm (x::a)=mm (x::b):=by
 funext y
 have:=congrFun h y
 simp only [mm] at this
 simp only [mm,memN]
 split <;> simp [this]
theorem befAt_nrm (j:Nat):∀{recs recs':List Rec},recs.map nrm=recs'.map nrm→mm (befAt j recs)=mm (befAt j recs')
 | [],[],_=>rfl
 | [],_::_,h=>by simp at h
 | _::_,[],h=>by simp at h
 | r::l,r'::l',h=>by
  simp only [List.map_cons,List.cons.injEq,nrm,Prod.mk.injEq] at h
  obtain ⟨⟨h1,h2,_⟩,h3⟩:=h
  simp only [befAt,h1]
  split
  ·exact h2
  ·exact befAt_nrm j h3
theorem befOf_nrm {recs recs':List Rec} (hr:recs.map nrm=recs'.map nrm) {i:Nat}:∀{es:List Edge} {b:List Nat},befOf recs i es=some b→∃b',befOf recs' i es=some b'∧mm b'=mm b
 | [],b,h=>⟨b,by simpa [befOf] using h,rfl⟩
 | e::r,b,h=>by
  simp only [befOf] at h ⊢
  split at h
  ·split at h
   ·rename_i l hb hl
    cases h
    obtain ⟨l',hl',hm⟩:=befOf_nrm hr hl
    simp only [hl',hb]
    refine ⟨_,rfl,mm_cons ?_⟩
    rw [mm_append,mm_append,hm,befAt_nrm e.on hr]
   ·cases h
  ·exact befOf_nrm hr h
theorem okRec_nrm {b b' tm:List Nat} {dst:Option Nat} (hb:mm b'=mm b):∀{recs recs':List Rec},recs.map nrm=recs'.map nrm→okRec b tm dst [] [] (recs.map strip)=okRec b' tm dst [] [] (recs'.map strip)
 | [],[],_=>rfl
 | [],_::_,h=>by simp at h
 | _::_,[],h=>by simp at h
 | r::l,r'::l',h=>by
  simp only [List.map_cons,List.cons.injEq,nrm,Prod.mk.injEq] at h
  obtain ⟨⟨h1,h2,h4,h5⟩,h3⟩:=h
  have:=congrFun hb r'.i
  simp only [mm] at this
  simp only [List.map_cons,strip,okRec,h1,h4,h5,this]
  rw [show List.map strip l=l.map strip from rfl,okRec_nrm hb h3]
theorem interN_nil (l:List Nat):interN l []=false:=by
 induction l with
 | nil=>rfl
 | cons x l ih=>simp [interN,memN,ih]

theorem okRec_dyn {ops:List Oper} {i:Nat} {o:Oper} {bef tm rd dom:List Nat} {dst:Option Nat} (hb:mm (befS ops i o)=mm bef)
  (hda:∀e∈o.after.toList,Region.binds .any e=true→memN e.on bef=true):∀{recs:List Rec},
  okRec bef tm dst [] [] (recs.map strip)=true→dynRec ops i o rd dom (thinR recs)=true→okRec bef tm dst rd dom recs=true
 | [],_,_=>rfl
 | j::l,h1,h2=>by
  simp only [List.map_cons,okRec,strip] at h1
  simp only [okRec]
  have rest:∀(h2:dynRec ops i o rd dom (thinR l)=true),(memN j.i bef=true→okRec bef tm dst rd dom l=true)∧(memN j.i bef=false→okRec bef tm dst rd dom l=true):=by
   intro h2
   constructor <;> intro hm <;> simp only [hm] at h1
   ·exact okRec_dyn hb hda h1 h2
   ·split at h1
    ·exact okRec_dyn hb hda h1 h2
    ·cases h1
  by_cases hm:memN j.i bef=true
  ·simp only [hm]
   refine (rest ?_).1 hm
   simp only [thinR] at h2
   split at h2
   ·exact h2
   ·simp only [dynRec] at h2
    split at h2
    ·exact h2
    ·split at h2
     ·exact h2
     ·split at h2
      ·exact h2
      ·cases h2
  ·have hm:memN j.i bef=false:=by simpa using hm
   have hs:memO j.dst tm=false∧memO dst j.tm=false∧sameO dst j.dst=false:=by
    simp only [hm] at h1
    split at h1
    ·rename_i a b c _ _ _;exact ⟨a,b,c⟩
    ·cases h1
   have key:interN j.dom rd=false∧interN j.rd dom=false∧interN j.dom dom=false∧dynRec ops i o rd dom (thinR l)=true:=by
    simp only [thinR] at h2
    split at h2
    ·rename_i hr hd
     rw [hr,hd]
     exact ⟨rfl,rfl,rfl,h2⟩
    ·rename_i hn
     simp only [dynRec] at h2
     split at h2
     ·rename_i a b c;exact ⟨a,b,c,h2⟩
     ·split at h2
      ·rename_i ha
       obtain ⟨e,he,hx⟩:=List.any_eq_true.1 ha
       split at hx
       ·rename_i hbnd
        have:=hda e he hbnd
        rw [Nat.eq_of_beq_eq_true hx,hm] at this
        cases this
       ·cases hx
      ·split at h2
       ·rename_i hb'
        have:=congrFun hb j.i
        simp only [mm] at this
        rw [this,hm] at hb';cases hb'
       ·cases h2
   simp only [hm,hs.1,hs.2.1,hs.2.2,key.1,key.2.1,key.2.2.1]
   exact (rest key.2.2.2).2 hm

theorem memN_append {x:Nat} {a b:List Nat}:memN x (a++b)=(memN x a || memN x b):=by
 induction a with
 | nil=>rfl
 | cons y a ih=>simp only [List.cons_append,memN];split <;> simp [ih]
theorem memN_self (x:Nat) (l:List Nat):memN x (x::l)=true:=by simp [memN]
theorem befOf_direct {recs:List Rec} {i:Nat}:∀{es:List Edge} {bef:List Nat},befOf recs i es=some bef→∀e∈es,Region.binds .any e=true→memN e.on bef=true
 | [],_,_,e,he,_=>by cases he
 | e::r,bef,h,e',he,hb=>by
  simp only [befOf] at h
  split at h
  ·split at h
   ·rename_i l _ hl
    cases h
    rcases List.mem_cons.1 he with rfl | he
    ·exact memN_self _ _
    ·have:=befOf_direct hl e' he hb
     rw [← List.cons_append,memN_append,this];simp
   ·cases h
  ·rename_i hbn
   rcases List.mem_cons.1 he with rfl | he
   ·rw [hb] at hbn;cases hbn
   ·exact befOf_direct h e' he hb

theorem statGo_take {ops:List Oper}:∀{l:List Oper} {i k:Nat} {recs out:List Rec},statGo ops i l recs=some out→∃mid,statGo ops i (l.take k) recs=some mid∧statGo ops (i+(l.take k).length) (l.drop k) mid=some out
 | [],i,k,recs,out,h=>⟨recs,by simp [statGo],by simpa using h⟩
 | o::l,i,0,recs,out,h=>⟨recs,by simp [statGo],by simpa using h⟩
 | o::l,i,k+1,recs,out,h=>by
  simp only [statGo] at h
  split at h
  ·rename_i bef hb
   split at h
   ·rename_i hok
    obtain ⟨mid,h1,h2⟩:=statGo_take (k:=k) h
    refine ⟨mid,?_,?_⟩
    ·simp only [List.take_succ_cons,statGo,hb,hok];exact h1
    ·simp only [List.take_succ_cons,List.drop_succ_cons,List.length_cons]
     rw [show i+((List.take k l).length+1)=i+1+(List.take k l).length from by omega]
     exact h2
   ·cases h
  ·cases h

theorem drawGo2_go {C:Contract} {T:Tab} {ops:List Oper} (hs:statOk ops=true):∀(l:List Oper) (i:Nat) (recs:List Rec) (K:St→Prop) (s:St),ops.drop i=l→i≤ops.length→recs.map nrm=(statAt ops i).map nrm→
  drawGo2 C T ops i l (thinR recs) K s→drawGo C T ops i l recs K s
 | [],i,recs,K,s,_,_,_,h=>by
  refine drawGo_nil ?_
  obtain ⟨env,mem,next⟩:=s
  exact h
 | o::l,i,recs,K,s,hl,hi,hr,h=>by
  obtain ⟨out,hout⟩:=Option.isSome_iff_exists.1 hs
  obtain ⟨mid,h1,h2⟩:=statGo_take (k:=i) hout
  have hlen:(ops.take i).length=i:=by simp;omega
  have hmid:statAt ops i=mid:=by unfold statAt;rw [h1];rfl
  rw [hl,hlen,Nat.zero_add] at h2
  simp only [statGo] at h2
  split at h2
  ·rename_i bef hb
   split at h2
   ·rename_i hok
    rw [hmid] at hr
    obtain ⟨bef',hb',hmb⟩:=befOf_nrm hr.symm hb
    have hS:mm (befS ops i o)=mm bef':=by unfold befS;rw [hmid,hb];exact hmb.symm
    have hms:mid.map strip=mid:=by
     have gen:∀(l:List Oper) (k:Nat) (rs out:List Rec),rs.map strip=rs→statGo ops k l rs=some out→out.map strip=out:=by
      intro l
      induction l with
      | nil=>intro k rs out h h';simp only [statGo,Option.some.injEq] at h';subst h';exact h
      | cons a l ih=>
       intro k rs out h h'
       simp only [statGo] at h'
       split at h'
       ·split at h'
        ·exact ih _ _ _ (by simp only [List.map_cons,h];rfl) h'
        ·cases h'
       ·cases h'
     exact gen _ _ _ _ rfl h1
    have hok':okRec bef' (guardTmp ops o++tmpsL (opnds o.op)) o.dst [] [] (recs.map strip)=true:=by
     rw [okRec_nrm (b':=bef) hmb.symm hr,hms];exact hok
    have hda:=befOf_direct hb'
    have hnext:ops.drop (i+1)=l:=by rw [← List.drop_drop,hl];rfl
    have hi1:i+1≤ops.length:=by
     have:=congrArg List.length hl
     simp at this;omega
    have hstat:∀rd dom,(⟨i,bef',guardTmp ops o++tmpsL (opnds o.op),o.dst,rd,dom⟩::recs).map nrm=(statAt ops (i+1)).map nrm:=by
     intro rd dom
     have ho:ops[i]?=some o:=by
      have:=congrArg List.head? hl
      simpa using this
     have e:ops.take (i+1)=ops.take i++[o]:=by rw [List.take_add_one,ho];rfl
     have app:∀(l:List Oper) (k:Nat) (rs:List Rec),statGo ops k l rs=some mid→k+l.length=i→statGo ops k (l++[o]) rs=some (⟨i,dd bef,guardTmp ops o++tmpsL (opnds o.op),o.dst,[],[]⟩::mid):=by
      intro l
      induction l with
      | nil=>
       intro k rs h hk
       simp only [statGo,Option.some.injEq] at h
       subst h
       simp only [List.length_nil,Nat.add_zero] at hk
       subst hk
       simp only [List.nil_append,statGo,hb,hok]
      | cons a l ih=>
       intro k rs h hk
       simp only [statGo] at h
       simp only [List.cons_append,statGo]
       split at h
       ·rename_i b1 hb1
        split at h
        ·rename_i hok1
         exact ih _ _ h (by simp at hk;omega)
        ·cases h
       ·cases h
     unfold statAt
     rw [e,app _ _ _ h1 (by omega)]
     simp only [Option.getD_some,List.map_cons,hr,nrm,mm_dd,hmb]
    refine drawGo_step ?_
    rw [hb']
    simp only [forceN_eq]
    simp only [drawGo2,drwP,forceN_eq,forceId_eq] at h
    refine guardA_imp h (fun s h=>stepX_imp h fun v u h=>?_) (fun s h=>?_)
    ·split at h
     ·rename_i hd
      have:=okRec_dyn (tm:=guardTmp ops o++tmpsL (opnds o.op)) (dst:=o.dst) hS hda hok' hd
      simp only [this]
      rw [putD_eq] at h ⊢
      refine drawGo2_go hs l (i+1) _ K _ hnext hi1 (hstat _ _) ?_
      simp only [thinR]
      split
      ·rename_i e1 e2;rw [e1,e2] at h;exact h
      ·rename_i hn
       split at h
       ·rename_i e1 e2;exact absurd e2 (hn e1)
       ·exact h
     ·exact h.elim
    ·have:okRec bef' (guardTmp ops o++tmpsL (opnds o.op)) o.dst [] [] recs=true:=by
      refine okRec_dyn hS hda hok' ?_
      clear h
      induction (thinR recs) with
      | nil=>rfl
      | cons j r ih=>
       simp only [dynRec,interN_nil]
       exact ih
     simp only [this]
     rw [putD_eq] at h ⊢
     refine drawGo2_go hs l (i+1) _ K _ hnext hi1 (hstat _ _) ?_
     exact h
   ·cases h2
  ·cases h2

def std (C:Contract) (T:Tab):WP C T where
 run:=Av.run C T (draw C T)
 ops:=fun l r K s=>runOps C T l r K s
 drw:=drawGo2 C T
 r_skip:=run_skip
 r_text:=run_text
 r_draw:=fun {id l K s} hs h=>run_draw (RD:=draw C T) (show draw C T l (K .normal) s from drawGo2_go hs l 0 [] _ s (by simp) (by simp) (by simp [statAt,statGo]) h)
 r_seq:=run_seq
 r_cut:=run_cut
 r_cond:=by
  intro t a b K env mem next h
  refine run_cond ?_
  unfold condP at h
  split at h
  ·rename_i e;rw [e];exact h
  ·exact h.elim
 r_block:=run_block
 r_loop:=run_loop
 r_exit:=run_exit
 r_ret:=run_ret
 o_nil:=runOps_nil
 o_step:=runOps_step
 d_nil:=fun h=>by simp only [drawGo2];exact h
 d_step:=fun h=>by simp only [drawGo2];exact h

/-- a function's body under any such rules -/
def WP.body {C:Contract} {T:Tab} (W:WP C T) (f:Func) (args:List DV) (R:DV→Prop):Prop:=
 match f.body with
 | some c=>W.run c (fun e s=>match e with
  | .exit _=>False
  | _=>match f.results with | ⟨rs⟩=>done T rs s R) { env:=params 0 args,mem:=[],next:=0 }
 | none=>False

theorem pure_of_walk {P:Program} {T:Tab} (hT:TOk P T) (hm:P.follows .mixedOrders=true) {F:FuncId} {fn:Func} {ds:List DV} {res:DV} (hf:P.funcs[F]?=some fn) (hok:fnOk fn=true)
  (h:∀W:WP (Con P) T,W.body fn ds (·=res)):Pure P F ds res:=by
 refine pure_of_body hT hm hf hok ?_
 have:=h (std _ _)
 unfold body
 unfold WP.body at this
 cases hb:fn.body with
 | none=>rw [hb] at this;exact this
 | some c=>
  rw [hb] at this
  simp only at this ⊢
  have e:(fun (e:Ex) (s:St)=>match e with | .exit _=>False | _=>match fn.results with | ⟨rs⟩=>done T rs s (·=res))=(fun e s=>match e with | .exit _=>False | _=>match fn.results with | ⟨rs⟩=>done T rs s (·=res)):=rfl
  exact this
/-- a function's body with objects under any such rules -/
def WP.bodyT {C:Contract} {T:Tab} (W:WP C T) (f:Func) (args:List AV) (objs:List AO) (R:List (Option AO)→AV→Prop):Prop:=
 match f.body with
 | some c=>W.run c (fun e s=>match e with
  | .exit _=>False
  | _=>match f.results with | ⟨rs⟩=>doneT T rs s R) (startT args objs)
 | none=>False
theorem turn_of_walk {P:Program} {T:Tab} (hT:TOk P T) (hm:P.follows .mixedOrders=true) {F:FuncId} {fn:Func} {args:List AV} {objs:List AO} {objs':List (Option AO)} {rv:AV} (hf:P.funcs[F]?=some fn) (hok:fnOk fn=true) (hk:sameK objs objs'=true)
  (h:∀W:WP (Con P) T,W.bodyT fn args objs (fun os v=>os=objs'∧v=rv)):Turn P F args objs objs' rv:=by
 refine turn_of_body hT hm hf hok hk ?_
 have:=h (std _ _)
 unfold bodyT
 unfold WP.bodyT at this
 cases hb:fn.body with
 | none=>rw [hb] at this;exact this
 | some c=>rw [hb] at this;exact this
theorem wk_on {M:St→Prop} {s:St} (h:M s):∃s₁,Wk s s₁∧M s₁:=⟨s,.inl rfl,h⟩
theorem WP.on {C:Contract} {T:Tab} (W:WP C T) {b:Code} {K:Ex→St→Prop} {s:St} (h:W.run b K s):∃s₁,Wk s s₁∧W.run b K s₁:=⟨s,.inl rfl,h⟩
/-- the rules under short names, joined -/
def nsq:Code→Bool
 | .seq _ _=>false
 | .region _ _ d=>!d
 | _=>true
def rStep {C:Contract} {T:Tab} (W:WP C T) (c:Code) (K:Ex→St→Prop) (s:St):Prop:=
 match c with
 | .skip=>K .normal s
 | .region _ ⟨l⟩ false=>W.ops l l (K .normal) s
 | .cond (.tmp t) a b=>match s with
  | ⟨env,mem,next⟩=>condP env t (fun v=>W.run a K ⟨(t,.d (.v (.bool v)))::env,mem,next⟩) (fun v=>W.run b K ⟨(t,.d (.v (.bool v)))::env,mem,next⟩)
 | .block id c=>W.run c (kBlock K id) s
 | .loop c=>∃I:Nat→St→Prop,(∃n s₀,Weak s s₀∧I n s₀)∧∀n s₀,I n s₀→W.run c (kLoop K I n) s₀
 | .exit id=>K (.exit id) s
 | .ret=>K .ret s
 | _=>False
theorem zr {C:Contract} {T:Tab} (W:WP C T) {c:Code} {K:Ex→St→Prop} {s:St} (hn:nsq c=true) (h:rStep W c K s):W.run c K s:=by
 unfold rStep at h
 split at h
 ·exact W.r_skip h
 ·exact W.r_text h
 ·exact W.r_cond h
 ·exact W.r_block h
 ·exact W.r_loop h
 ·exact W.r_exit h
 ·exact W.r_ret h
 ·exact h.elim
theorem zo {C:Contract} {T:Tab} (W:WP C T) {l r:List Oper} {K:St→Prop} {s:St} (h:match r with | []=>K s | o::r=>guardA l s o (fun s=>stepA C T o s (W.ops l r K)) (fun s=>s.put o.dst (.tup []) [] (W.ops l r K))):W.ops l r K s:=by
 cases r with
 | nil=>exact W.o_nil h
 | cons o r=>exact W.o_step h
theorem zd {C:Contract} {T:Tab} (W:WP C T) {l r:List Oper} {i:Nat} {recs:List Rec} {K:St→Prop} {s:St} (h:match r with | []=>drwE i K s | o::r=>drwP T C l i o recs (fun recs=>W.drw l (i+1) r recs K) s):W.drw l i r recs K s:=by
 cases r with
 | nil=>exact W.d_nil h
 | cons o r=>exact W.d_step h
theorem zn {C:Contract} {T:Tab} (W:WP C T) {b:Code} {K:Ex→St→Prop} {s:St} (h:W.run b K s):∃s₁,Wk s s₁∧W.run b K s₁:=⟨s,.inl rfl,h⟩
theorem zs {C:Contract} {T:Tab} (W:WP C T) {a b:Code} {K:Ex→St→Prop} {s:St} (h:W.run a (kSeq K (W.run b K)) s):W.run (.seq a b) K s:=W.r_seq h
theorem zw {C:Contract} {T:Tab} (W:WP C T) {id:Nat} {l:List Oper} {K:Ex→St→Prop} {s:St} (hs:statOk l=true) (h:W.drw l 0 l [] (K .normal) s):W.run (.region id ⟨l⟩ true) K s:=W.r_draw hs h
/-- one step, found by the form of the goal -/
class Z (g:Prop) where
 sub:Prop
 p:sub→g
section
variable {C:Contract} {T:Tab} (W:WP C T)
instance {l r:List Oper} {K:St→Prop} {s:St}:Z (W.ops l r K s):=⟨_,zo W⟩
instance {l r:List Oper} {i:Nat} {recs:List Rec} {K:St→Prop} {s:St}:Z (W.drw l i r recs K s):=⟨_,zd W⟩
instance {b:Code} {K:Ex→St→Prop} {s:St}:Z (∃s₁,Wk s s₁∧W.run b K s₁):=⟨_,zn W⟩
instance {K:Ex→St→Prop} {s:St}:Z (W.run .skip K s):=⟨_,W.r_skip⟩
instance {K:Ex→St→Prop} {s:St}:Z (W.run .ret K s):=⟨_,W.r_ret⟩
instance {id:Nat} {K:Ex→St→Prop} {s:St}:Z (W.run (.exit id) K s):=⟨_,W.r_exit⟩
instance {id:Nat} {c:Code} {K:Ex→St→Prop} {s:St}:Z (W.run (.block id c) K s):=⟨_,W.r_block⟩
instance {c:Code} {K:Ex→St→Prop} {s:St}:Z (W.run (.loop c) K s):=⟨_,W.r_loop⟩
instance {t:Nat} {a b:Code} {K:Ex→St→Prop} {s:St}:Z (W.run (.cond (.tmp t) a b) K s):=⟨_,zr W (c:=.cond (.tmp t) a b) rfl⟩
structure Dr (a b:Prop):Prop where
 a:a
 b:b
def rReg (ops:Array Oper) (d:Bool) (K:Ex→St→Prop) (s:St):Prop:=
 match ops with
 | ⟨l⟩=>match d with
  | false=>W.ops l l (K .normal) s
  | true=>Dr (statOk l=true) (W.drw l 0 l [] (K .normal) s)
theorem zg {id:Nat} {ops:Array Oper} {d:Bool} {K:Ex→St→Prop} {s:St} (h:rReg W ops d K s):W.run (.region id ops d) K s:=by
 obtain ⟨l⟩:=ops
 cases d with
 | false=>exact W.r_text h
 | true=>exact W.r_draw h.a h.b
instance {id:Nat} {ops:Array Oper} {d:Bool} {K:Ex→St→Prop} {s:St}:Z (W.run (.region id ops d) K s):=⟨_,zg W⟩
end
/-- steps taken by rules, as one term -/
theorem ab0 {G G':Prop} (h:G') (p:G'→G:=by (intro hg;focus((conv=>whnf);repeat((first|refine Z.p ?_|refine Dr.mk (by kernel_rfl) ?_);conv=>whnf));exact hg)):G:=p h
theorem avb {G G':Prop} (h:G') (p:G'→G:=by (intro hg;focus((conv=>whnf);repeat((first|refine Z.p ?_|refine zs _ ?_|refine Dr.mk (by kernel_rfl) ?_);conv=>whnf));exact hg)):G:=p h

/-! ### A weaker state, an equality at a time -/
mutual
def wV (r:List (Nat×Nat)) (m m':Nat→Option AO) (a b:AV) (K:Prop):Prop:=
 match b with
 | .any=>K
 | .d y=>match a with
  | .d x=>x=y∧K
  | .nil k=>y=.sl k []∧K
  | .sl o=>match m o with
   | some (.arr k rows _)=>match unmapped o r with | true=>y=.sl k rows∧K | false=>False
   | some (.fro k rows)=>y=.sl k rows∧K
   | _=>False
  | _=>False
 | .nil k'=>match a with | .nil k=>k=k'∧K | _=>False
 | .dp row' j'=>match a with | .dp row j=>row=row'∧j=j'∧K | _=>False
 | .ptr o' i' j'=>match a with | .ptr o i j=>rget r o'=some o∧i=i'∧j=j'∧K | _=>False
 | .sl o'=>match a with
  | .sl o=>match rget r o' with | some o1=>(match Nat.beq o1 o with | true=>K | false=>False) | none=>False
  | .nil k=>match rget r o' with | none=>(match m' o' with | some (.arr k' [] _)=>k=k'∧K | _=>False) | some _=>False
  | _=>False
 | .sub o' lo' n'=>match a with | .sub o lo n=>rget r o'=some o∧lo=lo'∧n=n'∧K | _=>False
 | .cel _ _ _=>False
 | .agg cs'=>match a with | .agg cs=>wL r m m' cs cs' K | _=>False
 | .fn f' cs'=>match a with | .fn f cs=>f=f'∧wL r m m' cs cs' K | _=>False
 | .tup _=>False
def wL (r:List (Nat×Nat)) (m m':Nat→Option AO) (as bs:List AV) (K:Prop):Prop:=
 match bs with
 | []=>match as with | []=>K | _=>False
 | b::bs=>match as with | a::as=>wV r m m' a b (wL r m m' as bs K) | []=>False
end
mutual
theorem wV_ok {r:List (Nat×Nat)} {m m':Nat→Option AO}:∀{a b:AV} {K:Prop},wV r m m' a b K→weakV r m m' a b∧K
 | a,.any,K,h=>by unfold wV at h;unfold weakV;exact ⟨trivial,h⟩
 | a,.d y,K,h=>by
  unfold wV at h;unfold weakV
  simp only at h ⊢
  split at h
  ·exact h
  ·exact h
  ·split at h
   ·rename_i hm
    split at h
    ·rename_i hu;simp only [hm];exact ⟨⟨h.1,hu⟩,h.2⟩
    ·exact h.elim
   ·rename_i hm;simp only [hm];exact h
   ·exact h.elim
  ·exact h.elim
 | a,.nil k',K,h=>by
  unfold wV at h;unfold weakV
  simp only at h ⊢
  split at h
  ·exact h
  ·exact h.elim
 | a,.dp row' j',K,h=>by
  unfold wV at h;unfold weakV
  simp only at h ⊢
  split at h
  ·exact ⟨⟨h.1,h.2.1⟩,h.2.2⟩
  ·exact h.elim
 | a,.ptr o' i' j',K,h=>by
  unfold wV at h;unfold weakV
  simp only at h ⊢
  split at h
  ·exact ⟨⟨h.1,h.2.1,h.2.2.1⟩,h.2.2.2⟩
  ·exact h.elim
 | a,.sl o',K,h=>by
  unfold wV at h;unfold weakV
  simp only at h ⊢
  split at h
  ·split at h
   ·rename_i hr
    split at h
    ·rename_i e;exact ⟨by rw [hr,Nat.eq_of_beq_eq_true e],h⟩
    ·exact h.elim
   ·exact h.elim
  ·split at h
   ·rename_i hr
    split at h
    ·rename_i hm;simp only [hm];exact ⟨⟨hr,h.1⟩,h.2⟩
    ·exact h.elim
   ·exact h.elim
  ·exact h.elim
 | a,.sub o' lo' n',K,h=>by
  unfold wV at h;unfold weakV
  simp only at h ⊢
  split at h
  ·exact ⟨⟨h.1,h.2.1,h.2.2.1⟩,h.2.2.2⟩
  ·exact h.elim
 | a,.agg cs',K,h=>by
  unfold wV at h;unfold weakV
  simp only at h ⊢
  split at h
  ·exact wL_ok h
  ·exact h.elim
 | a,.fn f' cs',K,h=>by
  unfold wV at h;unfold weakV
  simp only at h ⊢
  split at h
  ·have:=wL_ok h.2;exact ⟨⟨h.1,this.1⟩,this.2⟩
  ·exact h.elim
 | a,.cel _ _ _,K,h=>by unfold wV at h;exact h.elim
 | a,.tup _,K,h=>by unfold wV at h;exact h.elim
theorem wL_ok {r:List (Nat×Nat)} {m m':Nat→Option AO}:∀{as bs:List AV} {K:Prop},wL r m m' as bs K→weakL r m m' as bs∧K
 | as,[],K,h=>by
  unfold wL at h;unfold weakL
  simp only at h ⊢
  split at h
  ·exact ⟨trivial,h⟩
  ·exact h.elim
 | as,b::bs,K,h=>by
  unfold wL at h;unfold weakL
  simp only at h ⊢
  split at h
  ·have h1:=wV_ok h
   have h2:=wL_ok h1.2
   exact ⟨⟨h1.1,h2.1⟩,h2.2⟩
  ·exact h.elim
end
def wE (r:List (Nat×Nat)) (m m':Nat→Option AO) (env:List (Nat×AV)):List (Nat×AV)→Prop→Prop
 | [],K=>K
 | (t,v)::l,K=>wV r m m' (look env t) v (wE r m m' env l K)
theorem wE_ok {r:List (Nat×Nat)} {m m':Nat→Option AO} {env:List (Nat×AV)}:∀{l:List (Nat×AV)} {K:Prop},wE r m m' env l K→weakE r m m' env l∧K
 | [],K,h=>⟨trivial,h⟩
 | (t,v)::l,K,h=>by have h1:=wV_ok h;have h2:=wE_ok h1.2;exact ⟨⟨h1.1,h2.1⟩,h2.2⟩
def wO (r:List (Nat×Nat)) (m m':Nat→Option AO) (a b:AO) (K:Prop):Prop:=
 match a with
 | .box cs=>match b with | .box cs'=>wL r m m' cs cs' K | _=>False
 | .arr k rows own=>match b with
  | .arr k' rows' own'=>(match own' with | true=>(match own with | true=>k=k'∧rows=rows'∧K | false=>False) | false=>k=k'∧rows=rows'∧K)
  | _=>False
 | .fro k rows=>match b with | .fro k' rows'=>k=k'∧rows=rows'∧K | _=>False
 | .mp l=>match b with | .mp l'=>l=l'∧K | _=>False
 | .pin cs=>match b with | .pin cs'=>wL r m m' cs cs' K | _=>False
 | .deep k rows=>match b with | .deep k' rows'=>k=k'∧rows=rows'∧K | _=>False
theorem wO_ok {r:List (Nat×Nat)} {m m':Nat→Option AO} {a b:AO} {K:Prop} (h:wO r m m' a b K):weakO r m m' a b∧K:=by
 unfold wO at h
 split at h
 ·split at h
  ·exact wL_ok h
  ·exact h.elim
 ·split at h
  ·split at h
   ·split at h
    ·exact ⟨⟨h.1,h.2.1,fun h=>h⟩,h.2.2⟩
    ·exact h.elim
   ·exact ⟨⟨h.1,h.2.1,fun h=>by cases h⟩,h.2.2⟩
  ·exact h.elim
 ·split at h
  ·exact ⟨⟨h.1,h.2.1⟩,h.2.2⟩
  ·exact h.elim
 ·split at h
  ·exact h
  ·exact h.elim
 ·split at h
  ·exact wL_ok h
  ·exact h.elim
 ·split at h
  ·exact ⟨⟨h.1,h.2.1⟩,h.2.2⟩
  ·exact h.elim
def wM (r:List (Nat×Nat)) (m m':Nat→Option AO) (next:Nat):List (Nat×Option AO)→Prop→Prop
 | [],K=>K
 | (o',some ao')::l,K=>match Nat.blt o' next with
  | true=>(match rget r o' with
   | some o=>(match m o with | some ao=>wO r m m' ao ao' (wM r m m' next l K) | none=>False)
   | none=>(match ao' with | .arr k [] _=>(match Nat.blt 0 k with | true=>wM r m m' next l K | false=>False) | _=>False))
  | false=>False
 | (_,none)::l,K=>wM r m m' next l K
theorem wM_ok {r:List (Nat×Nat)} {m m':Nat→Option AO} {next:Nat}:∀{l:List (Nat×Option AO)} {K:Prop},wM r m m' next l K→weakM r m m' next l∧K
 | [],K,h=>⟨trivial,h⟩
 | (o',none)::l,K,h=>wM_ok (l:=l) h
 | (o',some ao')::l,K,h=>by
  unfold wM at h
  split at h
  ·rename_i hb
   split at h
   ·rename_i o hr
    split at h
    ·rename_i ao hm
     have h1:=wO_ok h
     have h2:=wM_ok h1.2
     refine ⟨⟨⟨hb,?_⟩,h2.1⟩,h2.2⟩
     simp only [hr,hm];exact h1.1
    ·exact h.elim
   ·rename_i hr
    split at h
    ·rename_i k own
     split at h
     ·rename_i hk
      have h2:=wM_ok h
      refine ⟨⟨⟨hb,?_⟩,h2.1⟩,h2.2⟩
      simp only [hr];exact by simpa using hk
     ·exact h.elim
    ·exact h.elim
  ·exact h.elim
/-- which object became which: found step by step, each number reckoned -/
def addK (o' o:Nat) (r:List (Nat×Nat)) (K:List (Nat×Nat)→Prop):Prop:=match rget r o' with
 | some _=>K r
 | none=>match o' with
  | 0=>(match o with | 0=>K ((0,0)::r) | y+1=>K ((0,y+1)::r))
  | x+1=>(match o with | 0=>K ((x+1,0)::r) | y+1=>K ((x+1,y+1)::r))
theorem addK_ok {o' o:Nat} {r:List (Nat×Nat)} {K:List (Nat×Nat)→Prop} (h:addK o' o r K):∃r,K r:=by
 unfold addK at h
 split at h
 ·exact ⟨_,h⟩
 ·split at h <;> split at h <;> exact ⟨_,h⟩
def seeV (a b:AV) (r:List (Nat×Nat)) (K:List (Nat×Nat)→Prop):Prop:=match b with
 | .sl o'=>(match a with | .sl o=>addK o' o r K | _=>K r)
 | .ptr o' _ _=>(match a with | .ptr o _ _=>addK o' o r K | _=>K r)
 | .sub o' _ _=>(match a with | .sub o _ _=>addK o' o r K | _=>K r)
 | _=>K r
theorem seeV_ok {a b:AV} {r:List (Nat×Nat)} {K:List (Nat×Nat)→Prop} (h:seeV a b r K):∃r,K r:=by
 unfold seeV at h
 split at h
 ·split at h
  ·exact addK_ok h
  ·exact ⟨_,h⟩
 ·split at h
  ·exact addK_ok h
  ·exact ⟨_,h⟩
 ·split at h
  ·exact addK_ok h
  ·exact ⟨_,h⟩
 ·exact ⟨_,h⟩
def seeL:List AV→List AV→List (Nat×Nat)→(List (Nat×Nat)→Prop)→Prop
 | as,[],r,K=>K r
 | as,b::bs,r,K=>match as with | a::as=>seeV a b r fun r=>seeL as bs r K | []=>K r
theorem seeL_ok:∀{bs as:List AV} {r:List (Nat×Nat)} {K:List (Nat×Nat)→Prop},seeL as bs r K→∃r,K r
 | [],as,r,K,h=>⟨r,by simpa only [seeL] using h⟩
 | b::bs,[],r,K,h=>⟨r,by simpa only [seeL] using h⟩
 | b::bs,a::as,r,K,h=>by
  simp only [seeL] at h
  obtain ⟨r1,h1⟩:=seeV_ok h
  exact seeL_ok h1
def seeA (a b:AV) (r:List (Nat×Nat)) (K:List (Nat×Nat)→Prop):Prop:=match b with
 | .agg bs=>(match a with | .agg as=>seeL as bs r K | _=>K r)
 | _=>seeV a b r K
theorem seeA_ok {a b:AV} {r:List (Nat×Nat)} {K:List (Nat×Nat)→Prop} (h:seeA a b r K):∃r,K r:=by
 unfold seeA at h
 split at h
 ·split at h
  ·exact seeL_ok h
  ·exact ⟨_,h⟩
 ·exact seeV_ok h
def seeE (env:List (Nat×AV)):List (Nat×AV)→List (Nat×Nat)→(List (Nat×Nat)→Prop)→Prop
 | [],r,K=>K r
 | (t,v)::l,r,K=>seeA (look env t) v r fun r=>seeE env l r K
theorem seeE_ok {env:List (Nat×AV)}:∀{l:List (Nat×AV)} {r:List (Nat×Nat)} {K:List (Nat×Nat)→Prop},seeE env l r K→∃r,K r
 | [],r,K,h=>⟨r,h⟩
 | (t,v)::l,r,K,h=>by obtain ⟨r1,h1⟩:=seeA_ok h;exact seeE_ok h1
def seeM (m:List (Nat×Option AO)):List (Nat×Option AO)→List (Nat×Nat)→(List (Nat×Nat)→Prop)→Prop
 | [],r,K=>K r
 | (o',a)::l,r,K=>match a with
  | some (.box bs)=>(match rget r o' with
   | some o=>(match find m o with | some (.box as)=>seeL as bs r fun r=>seeM m l r K | _=>seeM m l r K)
   | none=>seeM m l r K)
  | some (.pin bs)=>(match pinAt m with
   | some o=>(match find m o with | some (.pin as)=>addK o' o r fun r=>seeL as bs r fun r=>seeM m l r K | _=>seeM m l r K)
   | none=>seeM m l r K)
  | _=>seeM m l r K
theorem seeM_ok {m:List (Nat×Option AO)}:∀{l:List (Nat×Option AO)} {r:List (Nat×Nat)} {K:List (Nat×Nat)→Prop},seeM m l r K→∃r,K r
 | [],r,K,h=>⟨r,h⟩
 | (o',a)::l,r,K,h=>by
  simp only [seeM] at h
  split at h
  ·split at h
   ·split at h
    ·obtain ⟨r1,h1⟩:=seeL_ok h;exact seeM_ok h1
    ·exact seeM_ok h
   ·exact seeM_ok h
  ·split at h
   ·split at h
    ·obtain ⟨r1,h1⟩:=addK_ok h;obtain ⟨r2,h2⟩:=seeL_ok h1;exact seeM_ok h2
    ·exact seeM_ok h
   ·exact seeM_ok h
  ·exact seeM_ok h
def weakGo (s s':St):Prop:=seeE s.env s'.env [] fun r=>seeM s.mem s'.mem r fun r=>match injB r with
 | true=>(match liveB s'.mem r with
  | true=>wM r (find s.mem) (find s'.mem) s'.next s'.mem (wE r (find s.mem) (find s'.mem) s.env s'.env True)
  | false=>False)
 | false=>False
theorem weak_go {s s':St} (h:weakGo s s'):Weak s s':=by
 unfold weakGo at h
 obtain ⟨_,h⟩:=seeE_ok h
 obtain ⟨r,h⟩:=seeM_ok h
 split at h
 ·rename_i h1
  split at h
  ·rename_i h2
   have h3:=wM_ok h
   have h4:=wE_ok h3.2
   exact weak_of r ⟨⟨h1,h2⟩,h3.1,h4.1⟩
  ·exact h.elim
 ·exact h.elim

end Go.Av
