/- Part 7 of a proof of the law AstReference: Go data as trees, the walks of the functions that the law reaches, the plain laws. -/
import Derived.Test.YtfphoklhgapnpaaGreatDoorGAAstReference
import Derived.Lib.Join
import Derived.Below
import Derived.Laws.StructEq
import Derived.Laws.RangeString
import Derived.Lib.OthersKept
import Derived.Lib.DecodeN
import Derived.Laws.IdiomStrings
import Derived.Maps.RangeRun
import Derived.KernelRfl
open List renaming all_cons->aSd,all_eq_true->aTr,append_assoc->aUa,append_nil->aT4,drop_eq_getElem_cons->aUc,getD_eq_getElem?_getD->aTe,getElem?_append_left->aSv,getElem?_append_right->aSw,getElem?_cons_succ->aS3,getElem?_cons_zero->aTo,getElem?_eq_getElem->aTd,getElem?_eq_none->aSx,getElem?_map->aTb,getElem?_set_ne->aS0,getElem?_set_self->aSz,getElem?_toArray->aTa,getElem_cons_zero->aSj,getElem_map->aSh,getElem_mem->aTk,length_cons->aS2,length_map->aSr,length_nil->aT5,length_take->aS9,map_cons->aTg,map_nil->aT6,mem_append->aTs,mem_cons->aTv,mem_map->aTq,mem_range->aT0,mem_singleton->aT2,not_mem_nil->aT7,replicate->aS6,set_append_right->aTw,take_append_drop->aT3,take_succ_eq_append_getElem->aT8
open Nat renaming le_refl->aSl,lt_of_lt_of_le->aSn,lt_or_ge->aSk,lt_succ_self->aT9,mul_le_mul_right->aTj,succ_ne_self->aUb,zero_add->aTh,zero_le->aTn
open Go.Sem renaming run_bind->aS4,run_pure->aS7
open Bool renaming and_eq_true->aSe,eq_iff_iff->aTu,false_eq_true->aTc,not_eq_true'->aSf,not_false->aTp,not_true->aTt,or_eq_true->aTy
open Array renaming getD_eq_getD_getElem?->aSo,getElem?_eq_getElem->aSt,getElem?_toList->aTf,length_toList->aSs
open Go.Result renaming andThen_ok->aS5
open Option renaming bind_some->aSy,getD_some->aSu,map_some->aS1
set_option linter.unusedVariables false
set_option linter.unusedSimpArgs false
namespace Go.Abs
def DT(P:Program)(N:Nat)(ops:List Oper):List Oper->aD->aC->Option (aD×aC)
 | [],T,H=>some (T,H)
 |o::l,T,H=>match aU ops T N o with
  |some true=>(eU P false H.length T H o.op).bind λr=>DT P N ops l (bU T o.dst r.1) (yE H r.2)
  |some false=>DT P N ops l (bU T o.dst .junk) H
  |none=>none
section
variable{P:Program}{N nb:Nat}{ops:Array Oper}{Q:dG}
theorem vL:∀(l l2:List Oper) (T:aD) (H:aC) {T':aD} {H':aC},l.all (λo=>cK N o.op)=true->DT P N ops.toList l T H=some (T',H')->bH P N nb ops Q l2 T' H'->bH P N nb ops Q (l++l2) T H
 | [],l2,T,H,T',H',_,hs,h=>by cases hs;exact h
 |o::l,l2,T,H,T',H',hok,hs,h=>by
  simp only[aSd,aSe]at hok;unfold DT at hs
  split at hs
  ·rename_i hw;obtain⟨r,hr,hs⟩:=bind_some hs;exact CJ false hw hok.1 hr rfl (vL l l2 _ _ hok.2 hs h)
  ·rename_i hw;exact VT hw (vL l l2 _ _ hok.2 hs h)
  ·cases hs
theorem UK(n:Nat){l:List Oper}{T T':aD}{H H':aC}(hs:DT P N ops.toList (l.take n) T H=some (T',H'))(hok:(l.take n).all (λo=>cK N o.op)=true)(h:bH P N nb ops Q (l.drop n) T' H'):bH P N nb ops Q l T H:=by
 have:=vL (l.take n) (l.drop n) T H hok hs h
 rwa [aT3]at this
theorem ZN{l:List Oper}{T T':aD}{H H':aC}(hs:DT P N ops.toList l T H=some (T',H'))(hok:l.all (λo=>cK N o.op)=true)(h:Q .normal T' H'):bH P N nb ops Q l T H:=by
 have:=vL l [] T H hok hs (oN (nb:=nb) (Q:=Q) h)
 rwa [aT4]at this
theorem EH{id:Nat}{T T':aD}{H H':aC}(hs:DT P N ops.toList ops.toList T H=some (T',H'))(hok:ops.toList.all (λo=>cK N o.op)=true)(h:Q .normal T' H'):eA P N nb (.region id ops false) Q T H:=by
 refine wR ?_;have:=vL (nb:=nb) ops.toList [] T H hok hs (oN (Q:=Q) h)
 rwa [aT4]at this
end
def nM(bmk:Nat)(prev:fD)(rd eids:List Nat):Bool:=
 prev.all λp=>(bmk/2^p.1%2==1)||((p.2.2.all λid=> !rd.contains id)&&eids.all λid=> !p.2.1.contains id)
theorem lM{bmk:Nat}{prev:fD}{rd:List Nat}{eff:List (Nat×AObj)}(h:nM bmk prev rd (eff.map (·.1))=true):
  ∀p∈prev,bmk.testBit p.1=true\/((∀id∈p.2.2,id∉rd)/\∀e∈eff,e.1∉p.2.1):=by
 intro p hp;unfold nM at h;have e2:(bmk/2^p.1%2==1)=bmk.testBit p.1:=by rw[Nat.testBit_eq_decide_div_mod_eq];rfl
 have:=aTr.1 h p hp;rw[e2]at this;simp only[aTy,aSe,aTr,aSf,List.contains_eq_mem,decide_eq_false_iff_not,aTq]at this;rcases this with h| ⟨h1,h2⟩
 ·exact .inl h
 ·exact .inr ⟨h1,λe he=>h2 e.1 ⟨e,he,rfl⟩⟩
def pW(H:aC)(id:Nat):Bool:=match H[id]? with|some .unborn=>true|_=>false
theorem wP{H:aC}{id:Nat}(h:pW H id=true):H[id]? =some .unborn:=by
 unfold pW at h
 split at h
 ·assumption
 ·cases h
def dU(e:qD):List Nat:=match e with|some (id,_)=> [id]|none=> []
def mG(e:qD)(H:aC):aC:=match e with|some (id,o)=>H.set id o|none=>H
def iJ(fresh:Nat)(e:qD):Nat:=match e with|some (id,_)=>if id=fresh then fresh+1 else fresh|none=>fresh
def iA(fresh:Nat)(e:qD)(H:aC):Bool:=match e with|some (id,_)=>if id=fresh then pW H fresh else true|none=>true
def LU(P:Program)(N:Nat)(ops:List Oper)(bm:List Nat):List Oper->Nat->Nat->fD->aD->aC->Option (Nat×fD×aD×aC)
 | [],_,fresh,prev,T,H=>some (fresh,prev,T,H)
 |o::l,k,fresh,prev,T,H=>match aU ops T N o with
  |some true=>(eU P false fresh T H o.op).bind λr=>
   if iA fresh r.2 H=true/\nM (bm.getD k 0) prev (mU T o.op++dU r.2) (dU r.2)=true then
    LU P N ops bm l (k+1) (iJ fresh r.2) (prev++ [(k,mU T o.op++dU r.2,dU r.2)]) (bU T o.dst r.1) (mG r.2 H)
   else none
  |some false=>LU P N ops bm l (k+1) fresh (prev++ [(k,[],[])]) (bU T o.dst .junk) H
  |none=>none
section
variable{P:Program}{N nb:Nat}{ops:Array Oper}{Q:dG}
theorem yS:∀(l l2:List Oper) (k fresh:Nat) (prev:fD) (T:aD) (H:aC) {bm:List Nat} {fresh':Nat} {prev':fD} {T':aD} {H':aC},cL ops.toList=bm->l.all (λo=>cK N o.op)=true->
  LU P N ops.toList bm l k fresh prev T H=some (fresh',prev',T',H')->iI P N ops Q (k+l.length) l2 prev' T' H'->iI P N ops Q k (l++l2) prev T H
 | [],l2,k,fresh,prev,T,H,bm,fresh',prev',T',H',hbm,_,hs,h=>by cases hs;exact h
 |o::l,l2,k,fresh,prev,T,H,bm,fresh',prev',T',H',hbm,hok,hs,h=>by
  simp only[aSd,aSe]at hok;have h':iI P N ops Q (k+1+l.length) l2 prev' T' H':=by rw[show k+1+l.length=k+(o::l).length by simp only[aS2];omega];exact h
  unfold LU at hs
  split at hs
  ·rename_i hw;obtain⟨r,hr,hs⟩:=bind_some hs
   split at hs
   ·rename_i hc;obtain⟨v,e⟩:=r;have hids:dU e=(DN e).map (·.1):=by cases e<;>rfl
    have hset:mG e H=lQ H (DN e):=by cases e<;>rfl
    rw[hids]at hc hs;rw[hset]at hs;refine TU false fresh hw hok.1 hr (λob he=> ?_) rfl rfl (lM (by rw[hbm];exact hc.2)) (yS l l2 (k+1) _ _ _ _ hbm hok.2 hs h');have:=hc.1;subst he;simp only[iA,if_true]at this;exact wP this
   ·cases hs
  ·rename_i hw;exact UV hw (yS l l2 (k+1) _ _ _ _ hbm hok.2 hs h')
  ·cases hs
theorem VW(n:Nat){l:List Oper}{k fresh:Nat}{prev prev':fD}{T T':aD}{H H':aC}{bm:List Nat}{fresh':Nat}(hbm:cL ops.toList=bm)(hs:LU P N ops.toList bm (l.take n) k fresh prev T H=some (fresh',prev',T',H'))
  (hok:(l.take n).all (λo=>cK N o.op)=true) (hn:(l.take n).length=n) (h:iI P N ops Q (k+n) (l.drop n) prev' T' H'):iI P N ops Q k l prev T H:=by
 have:=yS (l.take n) (l.drop n) k fresh prev T H hbm hok hs (by rw[hn];exact h)
 rwa [aT3]at this
theorem XO{l:List Oper}{k fresh:Nat}{prev prev':fD}{T T':aD}{H H':aC}{bm:List Nat}{fresh':Nat}(hbm:cL ops.toList=bm)(hs:LU P N ops.toList bm l k fresh prev T H=some (fresh',prev',T',H'))
  (hok:l.all (λo=>cK N o.op)=true) (h:Q .normal T' H'):iI P N ops Q k l prev T H:=by
 have:=yS l [] k fresh prev T H (Q:=Q) hbm hok hs (xV h)
 rwa [aT4]at this
def eO(T:aD):Op->Option (FuncId×List PV)
 | .call c=>match c.callee with
  | .value fo=>match bT T fo with
   | .fn (.func f) pf pc=>some (f,pf++(c.args.toList.map λx=>(bT T x).drop1)++pc)
   |_=>none
  |_=>none
 |_=>none
theorem iZ{T:aD}{o:Op}{f:FuncId}{args:List PV}(h:eO T o=some (f,args)):
  ∃fo xs ts pf pc,o= .call ⟨.value fo,xs,ts⟩/\bT T fo= .fn (.func f) pf pc/\pf++(xs.toList.map λx=>(bT T x).drop1)++pc=args:=by
 unfold eO at h
 split at h
 ·rename_i c;obtain⟨ca,xs,ts⟩:=c;simp only at h
  split at h
  ·rename_i fo
   split at h
   ·rename_i f' pf pc hq;simp only[Option.some.injEq,Prod.mk.injEq]at h;obtain⟨rfl,rfl⟩:=h;exact⟨fo,xs,ts,pf,pc,rfl,hq,rfl⟩
   ·cases h
  ·cases h
 ·cases h
theorem oC{o:Oper}{l:List Oper}{T:aD}{H:aC}{f:FuncId}{args:List PV}(hcall:eO T o.op=some (f,args))(hw:aU ops.toList T N o=some true)(hok:cK N o.op=true)
  (hgo:aP P f=true) {R:PV->aC->Prop} (hc:aN P f args H R) (h:∀r H',R r H'->bH P N nb ops Q l (bU T o.dst r) H'):bH P N nb ops Q (o::l) T H:=by
 obtain⟨fo,xs,ts,pf,pc,h1,h2,h3⟩:=iZ hcall;exact VO h1 hw hok h2 hgo h3 hc h
theorem oP{o:Oper}{l:List Oper}{T:aD}{H:aC}{f:FuncId}{args:List PV}{r:PV}(hcall:eO T o.op=some (f,args))(hw:aU ops.toList T N o=some true)(hok:cK N o.op=true)
  (hgo:aP P f=true) (hc:aN P f args H λr' H''=>r'=r/\H''=H) (h:bH P N nb ops Q l (bU T o.dst r) H):bH P N nb ops Q (o::l) T H:=
 oC hcall hw hok hgo hc λr' H' ⟨h1,h2⟩=>by subst h1;subst h2;exact h
theorem aF7{T:aD}{H:aC}(n:Nat)(live:List Nat)(pZ:Nat->aD->aC->Prop){b b1 i1 i2:Nat}{body:Code}{o1 o2 o3:Oper}{ti tn tc tt:Nat}{y1 y2:TypeId}
  (e1:o1.op= .binOp .lss y1 (.tmp ti) (.tmp tn) y2) (d1:o1.dst=some tc) (g1:o1.guard=none)
  (e2:o2.op= .binOp .add y1 (.tmp ti) (.const (.int .i64 1)) y2) (d2:o2.dst=some tt) (g2:o2.guard=none)
  (e3:o3.op= .move (.tmp tt)) (d3:o3.dst=some ti) (g3:o3.guard=none)
  (hbnd:ti<N/\tn<N/\tc<N/\tt<N) (hdis:ti≠tn/\ti≠tc/\tn≠tc/\tn≠tt/\ti≠tt/\ti∉live/\tc∉live/\tt∉live) (hn:n<=maxLen) (hb:b≠b1)
  (hi0:T ti= .int .i64 0) (hn0:T tn= .int .i64 n) (hInv:∀i T T2 H,(∀t∈live,T2 t=T t)->pZ i T H->pZ i T2 H) (h0:pZ 0 T H)
  (hbody:∀i T H,i<n->pZ i T H->T ti= .int .i64 i->T tn= .int .i64 n->
   eA P N nb body (λe T' H'=>match e with
    | .normal=>T' ti= .int .i64 i/\T' tn= .int .i64 n/\∃H1 L,H'=H1++L/\nb<=H1.length/\jF H1.length H1/\(∀t∈live,aZ H1.length (T' t))/\pZ (i+1) T' H1
    | .exit id=>if id=b1 then T' ti= .int .i64 i/\T' tn= .int .i64 n/\∃H1 L,H'=H1++L/\nb<=H1.length/\jF H1.length H1/\(∀t∈live,aZ H1.length (T' t))/\pZ (i+1) T' H1
     else if id=b then Q .normal T' H' else Q (.exit id) T' H'
    |e=>Q e T' H') T H)
  (hexit:∀T H,pZ n T H->Q .normal T H):
  eA P N nb (.block b (.loop (.seq (.region i1 #[o1] false) (.seq (.cond (.tmp tc) .skip (.exit b)) (.seq (.block b1 body) (.region i2 #[o2,o3] false)))))) Q T H:=by
 obtain⟨b1',b2',b3',b4'⟩:=hbnd;obtain⟨q1,q2,q3,q4,q5,q6,q7,q8⟩:=hdis;have k1:cK N o1.op=true:=by
  rw[e1];show([Operand.tmp ti, .tmp tn].all (aQ N))=true;simp only[aSd,List.all_nil,aQ,b1',b2',decide_true,Bool.and_self]
 have k2:cK N o2.op=true:=by
  rw[e2];show([Operand.tmp ti, .const (.int .i64 1)].all (aQ N))=true;simp only[aSd,List.all_nil,aQ,b1',decide_true,Bool.and_self]
 have k3:cK N o3.op=true:=by
  rw[e3];show([Operand.tmp tt].all (aQ N))=true;simp only[aSd,List.all_nil,aQ,b4',decide_true,Bool.and_self]
 have em:maxLen=9223372036854775807:=z7
 have hwrap:∀i:Nat,i<n->IntKind.i64.wrap ((i:Int)+1)=(i:Int)+1:=by
  intro i hi;rw[em]at hn;simp[IntKind.wrap,IntKind.bits,IntKind.signed];omega
 have hend:∀(i:Nat),i<n->∀(T':aD) (H':aC),T' ti= .int .i64 i->T' tn= .int .i64 n->(∃H1 L,H'=H1++L/\nb<=H1.length/\jF H1.length H1/\(∀t∈live,aZ H1.length (T' t))/\pZ (i+1) T' H1)->
   eA P N nb (.region i2 #[o2,o3] false) (aW (λT' H'=>∃n' H1 L,n'<n-i/\H'=H1++L/\nb<=H1.length/\jF H1.length H1/\(∀t∈ti::tn::live,aZ H1.length (T' t))/\
    ∃i':Nat,n'=n-i'/\i'<=n/\keep (ti::tn::live) T' ti= .int .i64 i'/\keep (ti::tn::live) T' tn= .int .i64 n/\pZ i' (keep (ti::tn::live) T') H1) (aO b Q)) T' H':=by
  intro i hi T' H' h1 h2 h3;refine EH (T':=oF (oF T' tt (.int .i64 ((i:Int)+1))) ti (.int .i64 ((i:Int)+1))) (H':=H') ?_ ?_ ?_
  ·simp only[DT,aU,g2,g3,e2,e3,d2,d3,eU,bT,h1,aT,dW,if_true,aSy,sP,bU,yE,hwrap i hi];have:oF T' tt (.int .i64 ((i:Int)+1)) tt= .int .i64 ((i:Int)+1):=if_pos rfl;simp only[this]
  ·simp only[aSd,List.all_nil,k2,k3,Bool.and_self]
  ·obtain⟨H1,L,h4,h5,h6,h7,h8⟩:=h3;have hti:oF (oF T' tt (.int .i64 ((i:Int)+1))) ti (.int .i64 ((i:Int)+1)) ti= .int .i64 ((i:Int)+1):=if_pos rfl;have htn:oF (oF T' tt (.int .i64 ((i:Int)+1))) ti (.int .i64 ((i:Int)+1)) tn= .int .i64 n:=by
    unfold oF;rw[if_neg (λe=>q1 e.symm),if_neg q4];exact h2
   have hlv:∀t∈live,oF (oF T' tt (.int .i64 ((i:Int)+1))) ti (.int .i64 ((i:Int)+1)) t=T' t:=by
    intro t ht;unfold oF;rw[if_neg (by rintro rfl;exact q6 ht),if_neg (by rintro rfl;exact q8 ht)]
   refine⟨n- (i+1),H1,L,z8,h4,h5,h6, ?_,i+1,rfl,z8, ?_, ?_, ?_⟩
   ·intro t ht;rcases aTv.1 ht with rfl|ht
    ·rw[hti];exact .int _ _
    ·rcases aTv.1 ht with rfl|ht
     ·rw[htn];exact .int _ _
     ·rw[hlv t ht];exact h7 t ht
   ·unfold keep;rw[if_pos z6,hti];rfl
   ·unfold keep;rw[if_pos z6,htn]
   ·refine hInv _ T' _ _ (λt ht=> ?_) h8;unfold keep;rw[if_pos (by simp[ht]),hlv t ht]
 refine fB (aBb (ti::tn::live) (λk T H=>∃i:Nat,k=n-i/\i<=n/\T ti= .int .i64 i/\T tn= .int .i64 n/\pZ i T H) n ⟨0,rfl,aTn _,hi0,hn0,h0⟩ ?_);rintro k T H ⟨i,rfl,hin,h1,h2,h3⟩;refine wS (EH (T':=oF T tc (.bool (decide ((i:Int)<n)))) (H':=H) ?_ ?_ ?_)
 ·simp only[DT,aU,g1,e1,d1,eU,bT,h1,h2,dW,if_true,aSy,sP,bU,yE]
 ·simp only[aSd,List.all_nil,k1,Bool.and_self]
 ·have htc:oF T tc (.bool (decide ((i:Int)<n))) tc= .bool (decide ((i:Int)<n)):=if_pos rfl;have hti:oF T tc (.bool (decide ((i:Int)<n))) ti= .int .i64 i:=by unfold oF;rw[if_neg q2];exact h1
  have htn:oF T tc (.bool (decide ((i:Int)<n))) tn= .int .i64 n:=by unfold oF;rw[if_neg q3];exact h2
  have hiv:pZ i (oF T tc (.bool (decide ((i:Int)<n)))) H:=hInv i T _ H (λt ht=>by unfold oF;rw[if_neg (by rintro rfl;exact q7 ht)]) h3;refine wS (wC (b:=decide ((i:Int)<n)) (by simpa[aQ]using b3') htc (λhb'=> ?_) (λhb'=> ?_))
  ·have hlt:i<n:=by have:=of_decide_eq_true hb';omega
   refine wK ?_;refine wS (fB (eA.mono (hbody i _ H hlt hiv hti htn) ?_));intro e T' H' he;cases e with
   |normal=>exact hend i hlt T' H' he.1 he.2.1 he.2.2
   |exit id=>
    simp only at he;simp only[aO]
    split at he
    ·rename_i hid;rw[if_pos hid];exact hend i hlt T' H' he.1 he.2.1 he.2.2
    ·rename_i hid;rw[if_neg hid];simp only[aW,aO]
     split at he
     ·rename_i hid2;rw[if_pos hid2];exact he
     ·rename_i hid2;rw[if_neg hid2];exact he
   |_=>exact he
  ·have hge:i=n:=by have:=of_decide_eq_false hb';omega
   subst hge;refine bD ?_;simp only[aW,aO,if_true];exact hexit _ _ hiv
end
theorem dF(n:Nat):jF n []:=λo h=>by cases h
theorem jF.cons{n:Nat}{o:AObj}{H:aC}(h1:GH n o)(h2:jF n H):jF n (o::H):=λx hx=>by
 rcases aTv.1 hx with rfl|hx
 ·exact h1
 ·exact h2 x hx
theorem VR(T:aD)(d i:Nat)(v:PV):oF T d v i=if i=d then v else T i:=rfl
theorem UL(T:aD)(d:Nat)(v:PV):bU T (some d) v=oF T d v:=rfl
theorem VN(T:aD)(v:PV):bU T none v=T:=rfl
theorem aD9(T:aD)(t:Nat):bT T (.tmp t)=T t:=rfl
theorem VA(T:aD)(v:Value):bT T (.const v)=aT v:=rfl
theorem aBc(T:aD)(f:FuncId):bT T (.func f)= .fn (.func f) [] []:=rfl
theorem NH(args:List PV)(i:Nat):enter args i=args.getD i .junk:=rfl
theorem QD(l:List Nat)(T:aD)(i:Nat):keep l T i=if i∈l then T i else .junk:=rfl
theorem WL(H:aC):yE H none=H:=rfl
theorem WD(H:aC)(id:Nat)(o:AObj):yE H (some (id,o))=if id=H.length then H++ [o]else H.set id o:=rfl
theorem aO1:(false==true)=false:=rfl
theorem aO8:(true==false)=false:=rfl
theorem VP(cs:List PV):(PV.agg cs).cells=cs:=rfl
theorem WQ(k:IntKind)(n:Int):(PV.int k n).cells= [.int k n]:=rfl
theorem PM(b:Bool):(PV.bool b).cells= [.bool b]:=rfl
theorem VU(s:List UInt8):(PV.str s).cells= [.str s]:=rfl
theorem LX(es:List PV)(tl:jM):(PV.slice es tl).cells= [.slice es tl]:=rfl
theorem QO(i o:Nat):(PV.optr i o).cells= [.optr i o]:=rfl
theorem QF(cs:List PV):(PV.iptr cs).cells= [.iptr cs]:=rfl
theorem OY:PV.nilp.cells= [.nilp]:=rfl
theorem aCx(f:Fn)(a b:List PV):(PV.fn f a b).cells= [.fn f a b]:=rfl
theorem UM(a b c d:Nat):(PV.msl a b c d).cells= [.msl a b c d]:=rfl
theorem aBm(cs:List PV):(PV.agg cs).isJunk=false:=rfl
theorem ZC(k:IntKind)(n:Int):(PV.int k n).isJunk=false:=rfl
theorem UF(b:Bool):(PV.bool b).isJunk=false:=rfl
theorem aBv(s:List UInt8):(PV.str s).isJunk=false:=rfl
theorem QE(es:List PV)(tl:jM):(PV.slice es tl).isJunk=false:=rfl
theorem WE(i o:Nat):(PV.optr i o).isJunk=false:=rfl
theorem VH(cs:List PV):(PV.iptr cs).isJunk=false:=rfl
theorem VJ:PV.nilp.isJunk=false:=rfl
theorem aFc(f:Fn)(a b:List PV):(PV.fn f a b).isJunk=false:=rfl
theorem aB0(a b c d:Nat):(PV.msl a b c d).isJunk=false:=rfl
theorem aEa(k:IntKind)(n:Int):(PV.int k n).isCell=true:=rfl
theorem ZB(b:Bool):(PV.bool b).isCell=true:=rfl
theorem aF2(s:List UInt8):(PV.str s).isCell=true:=rfl
theorem WC(es:List PV)(tl:jM):(PV.slice es tl).isCell=true:=rfl
theorem aAx(i o:Nat):(PV.optr i o).isCell=true:=rfl
theorem aAu(cs:List PV):(PV.iptr cs).isCell=true:=rfl
theorem aAf:PV.nilp.isCell=true:=rfl
theorem aMk(f:Fn)(a b:List PV):(PV.fn f a b).isCell=true:=rfl
theorem aF5(a b c d:Nat):(PV.msl a b c d).isCell=true:=rfl
theorem aNi(cs:List PV):(PV.agg cs).drop1= .agg (cs.map PV.drop0):=rfl
theorem aI2(k:IntKind)(n:Int):(PV.int k n).drop1= .int k n:=rfl
theorem aFo(b:Bool):(PV.bool b).drop1= .bool b:=rfl
theorem aM7(s:List UInt8):(PV.str s).drop1= .str s:=rfl
theorem ZZ(es:List PV)(tl:jM):(PV.slice es tl).drop1= .slice es .none:=rfl
theorem aE4(i o:Nat):(PV.optr i o).drop1= .optr i o:=rfl
theorem aEz(cs:List PV):(PV.iptr cs).drop1= .iptr cs:=rfl
theorem aDg:PV.nilp.drop1= .nilp:=rfl
theorem aO5(f:Fn)(a b:List PV):(PV.fn f a b).drop1= .fn f a b:=rfl
theorem aK7(a b c d:Nat):(PV.msl a b c d).drop1= .msl a b c d:=rfl
theorem aLl(k:IntKind)(n:Int):(PV.int k n).drop0= .int k n:=rfl
theorem aF6(b:Bool):(PV.bool b).drop0= .bool b:=rfl
theorem aNn(s:List UInt8):(PV.str s).drop0= .str s:=rfl
theorem YD(es:List PV)(tl:jM):(PV.slice es tl).drop0= .slice es .none:=rfl
theorem aDl(i o:Nat):(PV.optr i o).drop0= .optr i o:=rfl
theorem aFu(cs:List PV):(PV.iptr cs).drop0= .iptr cs:=rfl
theorem aEb:PV.nilp.drop0= .nilp:=rfl
theorem aO9(f:Fn)(a b:List PV):(PV.fn f a b).drop0= .fn f a b:=rfl
theorem aFw(cs:List PV)(n b:Nat):(PV.agg cs).fits ⟨true,n,b⟩=decide (cs.length=n):=by unfold PV.fits;exact Bool.and_true _
theorem aEi(k:IntKind)(i:Int)(b:Nat):(PV.int k i).fits ⟨false,1,b⟩=true:=rfl
theorem aBl(x:Bool)(b:Nat):(PV.bool x).fits ⟨false,1,b⟩=true:=rfl
theorem aFa(s:List UInt8)(b:Nat):(PV.str s).fits ⟨false,1,b⟩=true:=rfl
theorem UB(es:List PV)(tl:jM)(b:Nat):(PV.slice es tl).fits ⟨false,1,b⟩=true:=rfl
theorem aAn(i o:Nat)(b:Nat):(PV.optr i o).fits ⟨false,1,b⟩=true:=rfl
theorem aB2(b:Nat):(PV.nilp).fits ⟨false,1,b⟩=true:=rfl
theorem KN(b:Bool):aT (.bool b)= .bool b:=rfl
theorem MK(k:IntKind)(n:Int):aT (.int k n)= .int k n:=rfl
theorem NS(s:ByteArray):aT (.string s)= .str s.data.toList:=rfl
theorem JA:aT (.pointer none)= .nilp:=rfl
theorem JK:aT (.slice none 0 0)= .slice [] .full:=rfl
theorem SS:(∀(T:aD) (d i:Nat) (v:PV),oF T d v i=if i=d then v else T i)/\
  (∀(T:aD) (d:Nat) (v:PV),bU T (some d) v=oF T d v)/\
  (∀(T:aD) (v:PV),bU T none v=T)/\
  (∀(T:aD) (t:Nat),bT T (.tmp t)=T t)/\
  (∀(T:aD) (v:Value),bT T (.const v)=aT v)/\
  (∀(T:aD) (f:FuncId),bT T (.func f)= .fn (.func f) [] [])/\
  (∀(args:List PV) (i:Nat),enter args i=args.getD i .junk)/\
  (∀(l:List Nat) (T:aD) (i:Nat),keep l T i=if i∈l then T i else .junk)/\
  (∀(H:aC),yE H none=H)/\
  (∀(H:aC) (id:Nat) (o:AObj),yE H (some (id,o))=if id=H.length then H++ [o]else H.set id o)/\
  ((false==true)=false)/\
  ((true==false)=false)/\
  (∀(cs:List PV),(PV.agg cs).cells=cs)/\
  (∀(k:IntKind) (n:Int),(PV.int k n).cells= [.int k n])/\
  (∀(b:Bool),(PV.bool b).cells= [.bool b])/\
  (∀(s:List UInt8),(PV.str s).cells= [.str s])/\
  (∀(es:List PV) (tl:jM),(PV.slice es tl).cells= [.slice es tl])/\
  (∀(i o:Nat),(PV.optr i o).cells= [.optr i o])/\
  (∀(cs:List PV),(PV.iptr cs).cells= [.iptr cs])/\
  (PV.nilp.cells= [.nilp])/\
  (∀(f:Fn) (a b:List PV),(PV.fn f a b).cells= [.fn f a b])/\
  (∀(a b c d:Nat),(PV.msl a b c d).cells= [.msl a b c d])/\
  (∀(cs:List PV),(PV.agg cs).isJunk=false)/\
  (∀(k:IntKind) (n:Int),(PV.int k n).isJunk=false)/\
  (∀(b:Bool),(PV.bool b).isJunk=false)/\
  (∀(s:List UInt8),(PV.str s).isJunk=false)/\
  (∀(es:List PV) (tl:jM),(PV.slice es tl).isJunk=false)/\
  (∀(i o:Nat),(PV.optr i o).isJunk=false)/\
  (∀(cs:List PV),(PV.iptr cs).isJunk=false)/\
  (PV.nilp.isJunk=false)/\
  (∀(f:Fn) (a b:List PV),(PV.fn f a b).isJunk=false)/\
  (∀(a b c d:Nat),(PV.msl a b c d).isJunk=false)/\
  (∀(k:IntKind) (n:Int),(PV.int k n).isCell=true)/\
  (∀(b:Bool),(PV.bool b).isCell=true)/\
  (∀(s:List UInt8),(PV.str s).isCell=true)/\
  (∀(es:List PV) (tl:jM),(PV.slice es tl).isCell=true)/\
  (∀(i o:Nat),(PV.optr i o).isCell=true)/\
  (∀(cs:List PV),(PV.iptr cs).isCell=true)/\
  (PV.nilp.isCell=true)/\
  (∀(f:Fn) (a b:List PV),(PV.fn f a b).isCell=true)/\
  (∀(a b c d:Nat),(PV.msl a b c d).isCell=true)/\
  (∀(cs:List PV),(PV.agg cs).drop1= .agg (cs.map PV.drop0))/\
  (∀(k:IntKind) (n:Int),(PV.int k n).drop1= .int k n)/\
  (∀(b:Bool),(PV.bool b).drop1= .bool b)/\
  (∀(s:List UInt8),(PV.str s).drop1= .str s)/\
  (∀(es:List PV) (tl:jM),(PV.slice es tl).drop1= .slice es .none)/\
  (∀(i o:Nat),(PV.optr i o).drop1= .optr i o)/\
  (∀(cs:List PV),(PV.iptr cs).drop1= .iptr cs)/\
  (PV.nilp.drop1= .nilp)/\
  (∀(f:Fn) (a b:List PV),(PV.fn f a b).drop1= .fn f a b)/\
  (∀(a b c d:Nat),(PV.msl a b c d).drop1= .msl a b c d)/\
  (∀(k:IntKind) (n:Int),(PV.int k n).drop0= .int k n)/\
  (∀(b:Bool),(PV.bool b).drop0= .bool b)/\
  (∀(s:List UInt8),(PV.str s).drop0= .str s)/\
  (∀(es:List PV) (tl:jM),(PV.slice es tl).drop0= .slice es .none)/\
  (∀(i o:Nat),(PV.optr i o).drop0= .optr i o)/\
  (∀(cs:List PV),(PV.iptr cs).drop0= .iptr cs)/\
  (PV.nilp.drop0= .nilp)/\
  (∀(f:Fn) (a b:List PV),(PV.fn f a b).drop0= .fn f a b)/\
  (∀(cs:List PV) (n b:Nat),(PV.agg cs).fits ⟨true,n,b⟩=decide (cs.length=n))/\
  (∀(k:IntKind) (i:Int) (b:Nat),(PV.int k i).fits ⟨false,1,b⟩=true)/\
  (∀(x:Bool) (b:Nat),(PV.bool x).fits ⟨false,1,b⟩=true)/\
  (∀(s:List UInt8) (b:Nat),(PV.str s).fits ⟨false,1,b⟩=true)/\
  (∀(es:List PV) (tl:jM) (b:Nat),(PV.slice es tl).fits ⟨false,1,b⟩=true)/\
  (∀(i o:Nat) (b:Nat),(PV.optr i o).fits ⟨false,1,b⟩=true)/\
  (∀(b:Nat),(PV.nilp).fits ⟨false,1,b⟩=true)/\
  (∀(b:Bool),aT (.bool b)= .bool b)/\
  (∀(k:IntKind) (n:Int),aT (.int k n)= .int k n)/\
  (∀(s:ByteArray),aT (.string s)= .str s.data.toList)/\
  (aT (.pointer none)= .nilp)/\
  (aT (.slice none 0 0)= .slice [] .full):=
 ⟨VR,UL,VN,aD9,VA,aBc,NH,QD,WL,WD,aO1,aO8,VP,WQ,PM,VU,LX,QO,QF,OY,aCx,UM,aBm,ZC,UF,aBv,QE,WE,VH,VJ,aFc,aB0,aEa,ZB,aF2,WC,aAx,aAu,aAf,aMk,aF5,aNi,aI2,aFo,aM7,ZZ,aE4,aEz,aDg,aO5,aK7,aLl,aF6,aNn,YD,aDl,aFu,aEb,aO9,aFw,aEi,aBl,aFa,UB,aAn,aB2,KN,MK,NS,JA,JK⟩
theorem aL.retok{V:cS}{v:Value}{es:List PV}{id:Nat}(hes:es= [])(h:aL V v (.slice es .full))(hb:V.born id)(ht:∀t,V.tok id=some t->es.length<=t.n):aL V v (.slice es (.tok id)):=by
 cases h with
 |nils _ h0=>exact .nils _ ⟨hb,λt e=>⟨aTn _,λ_=>.inl ⟨rfl,λh=>absurd h z6⟩⟩⟩
 |slice a len cap sz _ _ vs hlen hcap hmax hsz hc hr h0=>
  subst hlen;exact .slice _ _ _ _ _ _ vs rfl hcap hmax hsz hc hr ⟨hb,λt e=>⟨ht t e,λ_=>.inl ⟨h0,λh=>by rw[hes]at h;exact absurd h z6⟩⟩⟩
section
variable{P:Program}{N nb:Nat}{Q:dG}
theorem GK{c:Code}{T:aD}{H:aC}(id k sz:Nat){cs es:List PV}(hid:H[id]? =some (.row cs))(hk:cs[k]? =some (.slice es .full))
  (h:eA P N nb c Q T (H.set id (.row (cs.set k (.slice es (.tok H.length))))++ [.buf es.length sz])) (he:es= []:=by rfl):eA P N nb c Q T H:=by
 intro E a ho hH ht;subst hH;have hlt:=lG hid;have hun:E.ext.H[E.H.length]? =some .unborn:=by simp[aE.ext]
 have ho1:=ho.ext;have hle1:=E.ext_le;have ho2:=aE.Ok.retok (n:=es.length) (sz:=sz) ho1 hun;have hle2:=hle1.trans (aE.retok_le (n:=es.length) (sz:=sz) hun);generalize hE2:E.ext.retok E.H.length es.length sz=E2 at ho2 hle2;have hw2:E2.w=E.w:=by rw[<-hE2];rfl
 have hH2:E2.H=E.H++ [.buf es.length sz]:=by
  rw[<-hE2];simp only[aE.retok,aE.ext];rw[aTw _ _ (aSl _)];simp
 let E3:aE:= {E2 with H:=E2.H.set id (.row (cs.set k (.slice es (.tok E.H.length))))}
 have hid2:E2.H[id]? =some (.row cs):=by rw[hH2,aSv hlt];exact hid
 have hlen2:id<E2.H.length:=lG hid2;have hget:∀x,E3.H[x]? =if x=id then some (.row (cs.set k (.slice es (.tok E.H.length))))else E2.H[x]? :=λx=>aK hlen2;have hborn:∀x,pV E3.H x↔pV E2.H x:=by
  intro x;unfold pV;rw[hget]
  by_cases e:x=id
  ·subst e;rw[if_pos rfl,hid2];exact⟨λ_=>⟨_,rfl,z6⟩,λ_=>⟨_,rfl,z6⟩⟩
  ·rw[if_neg e]
 have htok:∀x,E3.view.tok x=E2.view.tok x:=by
  intro x;simp only[aE.view,hget]
  by_cases e:x=id
  ·subst e;rw[if_pos rfl,hid2]
  ·rw[if_neg e]
 have hv23:E2.view.le E3.view:=⟨λa v h=>h,λx hb=>(hborn x).2 hb,λ_ _=>rfl,λx t' _ h=>⟨t',by rw[<-htok];exact h, .inl rfl⟩⟩;have hbt:E3.view.born E.H.length:=(hborn _).2 ⟨.buf es.length sz,by rw[hH2];simp,z6⟩;have htt:∀t,E3.view.tok E.H.length=some t->es.length<=t.n:=by
  intro t e;rw[htok]at e;simp only[aE.view,hH2,aSw (aSl _),Nat.sub_self,aTo,Option.some.injEq]at e;subst e;exact aSl _
 have hfix:∀(y:Nat) (d:List PV),E3.H[y]? =some (AObj.row d)->∃d',E2.H[y]? =some (AObj.row d'):=by
  intro y d q;rw[hget]at q
  split at q
  ·rename_i e;subst e;exact⟨cs,hid2⟩
  ·exact⟨d,q⟩
 have ho3:E3.Ok:=by
  refine⟨?_, ?_, ?_, ?_,ho2.globs_of hv23.cell (by intro x b vs hx;rw[hget]at hx;split at hx<;>first|exact hx|cases hx),ho2.objs.of hv23 λx k hx=>⟨by rw[hget]at hx;split at hx;cases hx;exact hx,rfl,rfl,rfl⟩⟩
  ·intro x cs' hx;rw[hget]at hx
   split at hx
   ·rename_i e;cases hx;subst e;obtain⟨arr,elem,h1,h2,h3,h4⟩:=ho2.rows x cs hid2;refine⟨arr,elem,h1,by simpa using h2,λi hl=> ?_,h4⟩;simp only[lS]at hl
    by_cases e:k=i
    ·subst e;rw[List.getElem_set_self];have:=(h3 k hl).mono hv23;rw[aTd hl]at hk;simp only[Option.some.injEq]at hk;rw[hk]at this;exact aL.retok he this hbt htt
    ·rw[List.getElem_set_ne e];exact(h3 i hl).mono hv23
   ·obtain⟨arr,elem,h1,h2,h3,h4⟩:=ho2.rows x cs' hx;exact⟨arr,elem,h1,h2,λi hl=>(h3 i hl).mono hv23,h4⟩
  ·intro x n s b hx hb;rw[hget]at hx
   split at hx
   ·cases hx
   ·exact ho2.bufs x n s b hx hb
  ·intro x x' c c' h1 h2 e;obtain⟨d,hd⟩:=hfix _ _ h1;obtain⟨d',hd'⟩:=hfix _ _ h2;exact ho2.injr x x' d d' hd hd' e
  ·intro x x' n s n' s' b h1 h2 e e';rw[hget]at h1 h2
   split at h1<;>split at h2
   ·cases h1
   ·cases h1
   ·cases h2
   ·exact ho2.injb x x' n s n' s' b h1 h2 e e'
 have hle3:E2.le E3:=by
  refine⟨rfl,rfl,rfl,aSl _,λ_ _ _=>⟨rfl,rfl⟩,hv23,λb _=>Or.imp ?_ (Or.imp ?_ (aE.ownsObj_of (E:=E2) (E':=E3) λx k hx=>⟨by rw[hget]at hx;split at hx;cases hx;exact hx,rfl⟩))⟩
  ·rintro⟨x,c,h1,h2⟩;obtain⟨d,hd⟩:=hfix _ _ h1;exact⟨x,d,hd,h2⟩
  ·rintro⟨x,n,s,h1,h2⟩;rw[hget]at h1
   split at h1
   ·cases h1
   ·exact⟨x,n,s,h1,h2⟩
 have hH3:E3.H=E.H.set id (.row (cs.set k (.slice es (.tok E.H.length))))++ [.buf es.length sz]:=by
  show E2.H.set id _=_;rw[hH2,List.set_append_left _ _ hlt]
 have hle:=hle2.trans hle3;have:=h E3 a ho3 hH3 (ht.mono hle.view);rw[show E3.w=E.w from hw2]at this;exact wp_mono this λe a w hl=>eP (hle.leN nb) (λ_ _ _ q=>q) hl
theorem sO{c:Code}{T:aD}{H:aC}(t sz:Nat){es:List PV}(ht:T t= .slice es .full)(h:eA P N nb c Q (oF T t (.slice es (.tok H.length))) (H++ [.buf es.length sz]))(he:es= []:=by rfl):eA P N nb c Q T H:=by
 intro E a ho hH hr;subst hH;have hun:E.ext.H[E.H.length]? =some .unborn:=by simp[aE.ext]
 have ho2:=aE.Ok.retok (n:=es.length) (sz:=sz) ho.ext hun;have hle:=E.ext_le.trans (aE.retok_le (n:=es.length) (sz:=sz) hun);have hH2:(E.ext.retok E.H.length es.length sz).H=E.H++ [.buf es.length sz]:=by
  simp only[aE.retok,aE.ext];rw[aTw _ _ (aSl _)];simp
 have:=h (E.ext.retok E.H.length es.length sz) a ho2 hH2 ⟨hr.size,hr.defers,λi hi=> ?_⟩
 ·exact wp_mono this λe a w hl=>eP (hle.leN nb) (λ_ _ _ q=>q) hl
 ·have h0:=(hr.rel i hi).mono hle.view;unfold oF
  split
  ·rename_i e;subst e;rw[ht]at h0;refine aL.retok he h0 ⟨.buf es.length sz,by rw[hH2];simp,z6⟩ (λt e=> ?_);simp only[aE.view,hH2,aSw (aSl _),Nat.sub_self,aTo,Option.some.injEq]at e;subst e;exact aSl _
  ·exact h0
def PC(P:Program)(f:FuncId)(args:List PV)(r:PV):Prop:=∀H,aN P f args H λr' H'=>r'=r/\H'=H
theorem dN{f:FuncId}{fn:Func}{c:Code}{args:List PV}{r:PV}(hf:P.funcs[f]? =some fn)(hb:fn.body=some c)(hN:fn.ntmps=N)(hl:args.length<=N)(ha:∀p∈args,aZ 0 p)(hr:aZ 0 r)
  (h:eA P N 0 c (λe T H=>(e= .normal\/e= .ret)/\∃r',fP P N T H fn.results.toList=some r'/\r'.drop1=r) (enter args) []):PC P f args r:=
 aN.pure (aF hf hb hN hl λ_=>h) ha hr
theorem gK{f:FuncId}{fn:Func}{c:Code}{args:List PV}{r:PV}{H:aC}(hf:P.funcs[f]? =some fn)(hb:fn.body=some c)(hN:fn.ntmps=N)(hl:args.length<=N)(hr:aZ H.length r)
  (h:jF H.length H->eA P N H.length c (λe T H'=>(e= .normal\/e= .ret)/\∃r' L,fP P N T H' fn.results.toList=some r'/\r'.drop1=r/\H'=H++L) (enter args) H):aN P f args H λr' H'=>r'=r/\H'=H:=by
 have h1:aN P f args H λr' H'=>∃L,r'.drop1=r/\H'=H++L:=
  (aF hf hb hN hl λhh=>(h hh).mono λe T H' ⟨he,r',L,h1,h2,h3⟩=>⟨he,r',h1,L,h2,h3⟩)
 have h2:aN P f args H λr' H'=>∃L,r'=r/\H'=H++L:=by
  intro E vargs ho hH hrl;refine(h1 E vargs ho hH hrl).mono ?_;rintro e w' ⟨E',v,r',e1,e2,e3,e4,e5,L,e6,e7⟩;exact⟨E',v,r'.drop1,e1,e2,e3,e4,e5.drop1,L,e6,e7⟩
 refine aN.trunc (h2.mono ?_);rintro r' H' ⟨L,rfl,rfl⟩;exact⟨H,L,rfl,rfl,id,hr,rfl,rfl⟩
theorem aE8(H L:aC)(k:Nat):(H++L)[H.length+k]? =L[k]? :=by rw[aSw z8];congr 1;omega
theorem aA8(H L:aC):(H++L)[H.length]? =L[0]? :=by rw[aSw (aSl _)];simp
theorem aDp(H L:aC)(k:Nat)(o:AObj):(H++L).set (H.length+k) o=H++L.set k o:=by rw[aTw _ _ z8];congr 2;omega
theorem aA0(H L:aC)(o:AObj):(H++L).set H.length o=H++L.set 0 o:=by rw[aTw _ _ (aSl _)];simp
theorem aE7(n k:Nat):(n=n+k)=(k=0):=z6
theorem aFq(n k:Nat):(n+k=n)=(k=0):=z6
theorem QQ(n k m:Nat):(n+k=n+m)=(k=m):=z6
theorem ZY(n k:Nat):(n==n+k)=decide (k=0):=by rw[aTu];simp
theorem aCb(n k:Nat):(n+k==n)=decide (k=0):=by rw[aTu];simp
theorem LN(n k m:Nat):(n+k==n+m)=decide (k=m):=by rw[aTu];simp
theorem NN{α:Type}(a:α):(a=a)=True:=z6
theorem HS:(∀(H L:aC) (k:Nat),(H++L)[H.length+k]? =L[k]?)/\(∀(H L:aC),(H++L)[H.length]? =L[0]?)/\(∀(H L:aC) (k:Nat) (o:AObj),(H++L).set (H.length+k) o=H++L.set k o)/\
  (∀(H L:aC) (o:AObj),(H++L).set H.length o=H++L.set 0 o)/\(∀(n k:Nat),(n=n+k)=(k=0))/\(∀(n k:Nat),(n+k=n)=(k=0))/\(∀(n k m:Nat),(n+k=n+m)=(k=m))/\
  (∀(n k:Nat),(n==n+k)=decide (k=0))/\(∀(n k:Nat),(n+k==n)=decide (k=0))/\(∀(n k m:Nat),(n+k==n+m)=decide (k=m)):=
 ⟨aE8,aA8,aDp,aA0,aE7,aFq,QQ,ZY,aCb,LN⟩
end
theorem QV{V:cS}{N:Nat}{a:Act}{T:Nat->PV}(ht:eR V N a T)(xs:Array Operand)(h:xs.toList.all (aQ N)=true):
  RL V (xs.map a.eval) (xs.toList.map λx=>bT T x):=by
 refine⟨z6,λi hi=> ?_⟩;simp only[aSr,aSs]at hi;simp only[aSh,Array.getElem_toList];rw[aSo,Array.getElem?_map,aSt hi];simp only[aS1,aSu];exact aM ht _ (aTr.1 h _ z6)
def wY(T:aD):Op->Option (FuncId×List PV)
 | .call c=>match c.callee with
  | .value fo=>match bT T fo with
   | .fn (.func f) pf pc=>some (f,pf++(c.args.toList.map λx=>bT T x)++pc)
   |_=>none
  |_=>none
 |_=>none
theorem LW{T:aD}{o:Op}{f:FuncId}{args:List PV}(h:wY T o=some (f,args)):
  ∃fo xs ts pf pc,o= .call ⟨.value fo,xs,ts⟩/\bT T fo= .fn (.func f) pf pc/\pf++(xs.toList.map λx=>bT T x)++pc=args:=by
 unfold wY at h
 split at h
 ·rename_i c;obtain⟨callee,xs,ts⟩:=c;simp only at h
  split at h
  ·rename_i fo
   split at h
   ·rename_i f' pf pc hfo;cases h;exact⟨fo,xs,ts,pf,pc,rfl,hfo,rfl⟩
   ·cases h
  ·cases h
 ·cases h
section
variable{P:Program}{N nb:Nat}{Q:dG}{T:aD}{H:aC}
theorem pL{ops:Array Oper}{o:Oper}{l:List Oper}{f:FuncId}{args:List PV}(hcall:wY T o.op=some (f,args))(hw:aU ops.toList T N o=some true)(hok:cK N o.op=true)
  (hgo:aP P f=true) {R:PV->aC->Prop} (hc:aN P f args H R)
  (h:∀r H',R r H'->bH P N nb ops Q l (bU T o.dst r) H'):bH P N nb ops Q (o::l) T H:=by
 obtain⟨fo,xs,ts,pf,pc,hop,hf,hargs⟩:=LW hcall;intro E a ho hH ht;refine iS (cB ht hw) ?_;have hall:∀x∈o.op.operands.toList,aQ N x=true:=λx hx=>aTr.1 hok x hx;rw[hop]at hall;simp only[Op.operands,Call.operands]at hall;have hr:=aM ht fo (hall fo z6);rw[hf]at hr;obtain⟨first,caps,hval,h1,h2⟩:∃first caps,a.eval fo= .func (.func f) first caps/\RL E.view first pf/\RL E.view caps pc:=by
  generalize a.eval fo=y at hr;cases hr with
  |fn _ first caps _ _ hf hc hrf hrc=>exact⟨first,caps,rfl,⟨hf,hrf⟩,⟨hc,hrc⟩⟩
 have h3:=QV ht xs (aTr.2 λx hx=>hall x (by simp;right;simpa using hx));have hrl:=jU (jU h1 h3) h2;rw[hargs]at hrl;have hrun:(execOp a.eval o).run P E.w= .ok (.enter f (first++xs.map a.eval++caps)) E.w:=by
  unfold execOp;rw[hop];simp only[resolve,hval,Deferred.ofValue,aS4,aS7,aS5,invoke,oR hgo]
 unfold Oper.wp;rw[hrun];refine(hc E _ ho hH hrl).mono ?_;rintro e w' ⟨E',v,r,rfl,rfl,h5,h6,h7,h8⟩;exact eV (λe a w hl=>eP (h5.leN nb) (λ_ _ _ q=>q) hl) l _ _ (h r E'.H h8 E' (a.put o.dst v) h6 rfl ((ht.mono h5.view).put o.dst h7))
theorem IC{ops:Array Oper}{bm:List Nat}{k:Nat}{o:Oper}{l:List Oper}{prev:fD}{f:FuncId}{args:List PV}{r:PV}(rd:List Nat)(hbm:cL ops.toList=bm)(hcall:eO T o.op=some (f,args))(hw:aU ops.toList T N o=some true)(hok:cK N o.op=true)
  (hgo:aP P f=true) (hc:∀H':aC,(∀id∈rd,H'[id]? =H[id]?)->aN P f args H' λr' H''=>r'=r/\H''=H')
  (hap:nM (bm.getD k 0) prev rd []=true) (h:iI P N ops Q (k+1) l (prev++ [(k,rd,[])]) (bU T o.dst r) H):iI P N ops Q k (o::l) prev T H:=by
 obtain⟨fo,xs,ts,pf,pc,h1,h2,h3⟩:=iZ hcall;exact rU (eff:= []) (rd:=rd) h1 hw hok h2 hgo h3 z6 (λH' hH _=>hc H' hH) (lM (eff:= []) (by rw[hbm];exact hap)) h
end
theorem cD{P:Program}{N:Nat}{T:aD}{H:aC}{rs:List ResultVar}(t:Nat)(ty:TypeId){i:TI}{r:PV}(hrs:rs= [.cell t ty])(hi:cV P ty=some i)(ht:t<N)(h:iQ i H (T t)=some r):fP P N T H rs=some r:=by
 subst hrs;simp only[fP,kY,if_pos ht,hi,aSy];exact h
theorem xX{i:TI}{fresh:Nat}{H:aC}{es:List PV}{x:PV}{id n:Nat}{tl:jM}(hH:H[id]? =some (.buf n i.sz))(hn:n=es.length)(hb:(es.length+1)*i.bytes<=2^47)(hm:es.length+1<=maxLen)
  (hes:∀e∈es,e.cells.length=i.sz) (hx:x.cells.length=i.sz) (hx':x.cells.all PV.isCell=true) (hs:0<i.sz):
  dQ i fresh H (.slice es (.tok id)) (.slice [x] tl)=some (.slice (es++ [x]) (.tok id),some (id, .buf (es.length+1) i.sz)):=by
 unfold dQ;simp only[List.cons_ne_self,if_false,aS2,aT5,aTh,reduceCtorEq];rw[if_pos ⟨hb,hm,hes,λe he=>by rw[aT2]at he;subst he;exact⟨hx,hx'⟩,hs⟩];simp only[hH];simp only[hn,and_self,if_true]
def eZ(u:PV)(T:aD)(G:Nat->Bool):aD:=λi=>if G i then T i else u
def ug(G:Nat->Bool)(d:Nat)(c:Bool):Nat->Bool:=λi=>if i=d then c else G i
def vV(G:Nat->Bool)(d:Option Nat)(c:Bool):Nat->Bool:=match d with|some d=>ug G d c|none=>G
def DS:Nat->Bool:=λ_=>true
def zH(c:Bool)(G:Nat->Bool):Operand->Bool
 | .tmp t=> !c||G t
 |_=>true
def dV(ops:List Oper)(T:aD)(G:Nat->Bool)(N:Nat)(o:Oper):Option Bool:=
 match o.guard with
 |none=>some true
 |some (j,want)=>match(ops[j]?).bind (·.dst)with
  |some d=>if d<N then match T d with
   | .bool b=>some (G d&&(b==want))
   |_=>none
   else none
  |none=>none
def pk(c:Bool)(a b:PV):PV:=if c then a else b
def wG(P:Program)(fresh:Nat)(c:Bool)(T:aD)(G:Nat->Bool)(H:aC):Op->Option (PV×qD)
 | .pick x a b=>match bT T x with
  | .bool p=>if zH c G x=true/\zH (c&&p) G a=true/\zH (c&& !p) G b=true then some (pk p (bT T a) (bT T b),none)else none
  |_=>none
 |o=>if o.operands.toList.all (zH c G)=true then(eU P false fresh T H o).bind λr=>match r.2 with
  |none=>some r
  |some e=>if c=true then some r else none
  else none
theorem lY{u:PV}{T:aD}{G:Nat->Bool}{x:Operand}(h:zH true G x=true):bT (eZ u T G) x=bT T x:=by
 cases x with
 |tmp t=>simp only[zH,aTt,Bool.false_or]at h;simp only[bT,eZ,h,if_true]
 |_=>rfl
theorem ND{P:Program}{fresh:Nat}{u:PV}{T:aD}{G:Nat->Bool}{H:aC}{o:Op}{r:PV×qD}(h:wG P fresh true T G H o=some r):eU P false fresh (eZ u T G) H o=some r:=by
 cases o with
 |pick x a b=>
  simp only[wG]at h
  split at h
  ·rename_i p hp
   split at h
   ·rename_i hg;obtain⟨h1,h2,h3⟩:=hg;cases h;simp only[eU,lY h1,hp];cases p
    ·simp only[aTp,Bool.and_true]at h3;simp only[pk,lY h3,aTc,if_false]
    ·simp only[Bool.and_true]at h2;simp only[pk,lY h2,if_true]
   ·cases h
  ·cases h
 |_=>
  simp only[wG]at h
  split at h
  ·rename_i hall;obtain⟨q,hq,h⟩:=bind_some h;rw[IL (T:=T) (λx hx=>lY (aTr.1 hall x hx)),hq]
   split at h
   ·exact h
   ·simpa using h
  ·cases h
theorem HU{P:Program}{fresh:Nat}{T:aD}{G:Nat->Bool}{H:aC}{o:Op}{r:PV×qD}(h:wG P fresh false T G H o=some r):r.2=none:=by
 cases o with
 |pick x a b=>
  simp only[wG]at h
  split at h
  ·split at h
   ·cases h;rfl
   ·cases h
  ·cases h
 |_=>
  simp only[wG]at h
  split at h
  ·obtain⟨q,hq,h⟩:=bind_some h
   split at h
   ·cases h;assumption
   ·simp at h
  ·cases h
theorem gG(u:PV)(T:aD)(G:Nat->Bool)(d:Option Nat)(v:PV):eZ u (bU T d v) (vV G d true)=bU (eZ u T G) d v:=by
 cases d with
 |none=>rfl
 |some d=>
  funext i;simp only[eZ,bU,oF,vV,ug]
  split<;>simp
theorem gQ(u:PV)(T:aD)(G:Nat->Bool)(d:Option Nat)(v:PV):eZ u (bU T d v) (vV G d false)=bU (eZ u T G) d u:=by
 cases d with
 |none=>rfl
 |some d=>
  funext i;simp only[eZ,bU,oF,vV,ug]
  split<;>simp
section
variable{P:Program}{N nb:Nat}{ops:Array Oper}{Q:dG}
theorem iO{ops:List Oper}{o:Oper}{b:Bool}{T:aD}{G:Nat->Bool}(h:dV ops T G N o=some b):
  (b=true->∀u,aU ops (eZ u T G) N o=some true)/\
  (b=false->aU ops (eZ .junk T G) N o=some false\/True):=by
 refine⟨λhb u=> ?_,λ_=>.inr trivial⟩;subst hb;unfold dV at h;unfold aU
 split at h
 ·rename_i hg;simp only[hg]
 ·rename_i j want hg
  try simp only[hg]
  split at h
  ·rename_i d hd
   split at h
   ·rename_i hdN
    split at h
    ·rename_i q hq;simp only[Option.some.injEq,aSe]at h;simp only[hd,hdN,if_true,eZ,h.1,hq,h.2]
    ·cases h
   ·cases h
  ·cases h
theorem yI{ops:Array Oper}{o:Oper}{V:cS}{a:Act}{T T':aD}{G:Nat->Bool}(ht:eR V N a T')(hT:∀j want d,o.guard=some (j,want)->(ops.toList[j]?).bind (·.dst)=some d->T' d=eZ (.tup []) T G d)(h:dV ops.toList T G N o=some false):Region.wanted o (yielded ops a.tmps)=false:=by
 unfold dV at h;unfold Region.wanted
 split at h
 ·cases h
 ·rename_i j want hg;simp only[hg]
  split at h
  ·rename_i d hd
   split at h
   ·rename_i hdN
    split at h
    ·rename_i q hq;simp only[Option.some.injEq]at h;have hr:=ht.rel d hdN;rw[hT j want d hg hd]at hr;simp only[eZ]at hr;have hy:∀v,a.tmps.getD d undef=v->yielded ops a.tmps j=(match v with| .bool b=>some b|_=>none):=by
      intro v hv;unfold yielded;rw[aTf]at hd;rw[hd];simp only[aSy];rw[aSo,aSt (by rw[ht.size];exact hdN),aSu]at hv;rw[aSt (by rw[ht.size];exact hdN),hv];cases v<;>rfl
     cases hG:G d
     ·rw[hG]at hr;simp only[aTc,if_false]at hr;obtain⟨arr,e1,_⟩:=hr.tup_inv;rw[hy _ e1];rfl
     ·rw[hG]at hr h;simp only[if_true,hq]at hr;rw[hy _ hr.bool_inv];simp only[Bool.true_and]at h;show(some q==some want)=false;rw[<-h];rfl
    ·cases h
   ·cases h
  ·cases h
theorem vN{o:Oper}{V:cS}{a:Act}{T:aD}{G:Nat->Bool}(ht:eR V N a (eZ (.tup []) T G))(h:dV ops.toList T G N o=some false):Region.wanted o (yielded ops a.tmps)=false:=
 yI ht (λ_ _ _ _ _=>rfl) h
theorem xB{o:Oper}{l:List Oper}{T:aD}{H:aC}(hw:∀(E:aE) (a:Act),eR E.view N a T->Region.wanted o (yielded ops a.tmps)=false)(h:bH P N nb ops Q l (bU T o.dst (.tup [])) H):bH P N nb ops Q (o::l) T H:=by
 intro E a ho hH ht;unfold wpList;rw[if_neg (by rw[hw E a ht];simp)];exact h E _ ho hH (ht.put o.dst (.tup _ _ rfl (λi h=>absurd h z6)))
def LA(P:Program)(N:Nat)(ops:List Oper):List Oper->aD->(Nat->Bool)->aC->Option (aD×(Nat->Bool)×aC)
 | [],T,G,H=>some (T,G,H)
 |o::l,T,G,H=>(dV ops T G N o).bind λc=>(wG P H.length c T G H o.op).bind λr=>LA P N ops l (bU T o.dst r.1) (vV G o.dst c) (yE H r.2)
theorem RK{o:Oper}{l:List Oper}{T:aD}{G:Nat->Bool}{H:aC}{c:Bool}{r:PV×qD}(hok:cK N o.op=true)(hc:dV ops.toList T G N o=some c)(hr:wG P H.length c T G H o.op=some r)
  (h:bH P N nb ops Q l (eZ (.tup []) (bU T o.dst r.1) (vV G o.dst c)) (yE H r.2)):bH P N nb ops Q (o::l) (eZ (.tup []) T G) H:=by
 cases c
 ·refine xB (λE a ht=>vN ht hc) ?_;rw[gQ]at h;rw[HU hr]at h;exact h
 ·rw[gG]at h;exact CJ false ((iO hc).1 rfl _) hok (ND hr) rfl h
theorem AM:∀(l l2:List Oper) (T:aD) (G:Nat->Bool) (H:aC) {T':aD} {G':Nat->Bool} {H':aC},l.all (λo=>cK N o.op)=true->LA P N ops.toList l T G H=some (T',G',H')->
  bH P N nb ops Q l2 (eZ (.tup []) T' G') H'->bH P N nb ops Q (l++l2) (eZ (.tup []) T G) H
 | [],l2,T,G,H,T',G',H',_,hs,h=>by cases hs;exact h
 |o::l,l2,T,G,H,T',G',H',hok,hs,h=>by
  simp only[aSd,aSe]at hok;unfold LA at hs;obtain⟨c,hc,hs⟩:=bind_some hs;obtain⟨r,hr,hs⟩:=bind_some hs;exact RK hok.1 hc hr (AM l l2 _ _ _ hok.2 hs h)
theorem OT(n:Nat){l:List Oper}{T T':aD}{G G':Nat->Bool}{H H':aC}(hs:LA P N ops.toList (l.take n) T G H=some (T',G',H'))(hok:(l.take n).all (λo=>cK N o.op)=true)
  (h:bH P N nb ops Q (l.drop n) (eZ (.tup []) T' G') H'):bH P N nb ops Q l (eZ (.tup []) T G) H:=by
 have:=AM (l.take n) (l.drop n) T G H hok hs h
 rwa [aT3]at this
theorem bO{l:List Oper}{T:aD}{H:aC}(h:bH P N nb ops Q l (eZ (.tup []) T DS) H):bH P N nb ops Q l T H:=h
inductive fK:aD->(Nat->Bool)->aD->Prop
 |base (T:aD):fK T DS T
 |keep {T G F d v} (h:fK T G F):fK (oF T d v) (ug G d true) (oF F d v)
 |drop {T G F d v c} (h:fK T G F):fK (oF T d v) (ug G d c) (oF F d .junk)
theorem fK.spec{T:aD}{G:Nat->Bool}{F:aD}(h:fK T G F):∀i,F i= .junk\/(G i=true/\F i=T i):=by
 induction h with
 |base T=>exact λi=>.inr ⟨rfl,rfl⟩
 |keep h ih=>
  intro i;simp only[oF,ug]
  split
  ·exact .inr ⟨rfl,rfl⟩
  ·exact ih i
 |drop h ih=>
  intro i;simp only[oF,ug]
  split
  ·exact .inl rfl
  ·exact ih i
theorem VS{l:List Oper}{T F:aD}{H:aC}(hf:∀i,F i= .junk\/F i=T i)(h:bH P N nb ops Q l F H):bH P N nb ops Q l T H:=by
 intro E a ho hH ht;refine h E a ho hH ⟨ht.size,ht.defers,λi hi=> ?_⟩;rcases hf i with e|e
 ·rw[e];exact .junk _
 ·rw[e];exact ht.rel i hi
theorem OF{c:Code}{T F:aD}{H:aC}(hf:∀i,F i= .junk\/F i=T i)(h:eA P N nb c Q F H):eA P N nb c Q T H:=by
 intro E a ho hH ht;refine h E a ho hH ⟨ht.size,ht.defers,λi hi=> ?_⟩;rcases hf i with e|e
 ·rw[e];exact .junk _
 ·rw[e];exact ht.rel i hi
theorem VC{l:List Oper}{T F:aD}{G:Nat->Bool}{H:aC}(hf:fK T G F)(h:bH P N nb ops Q l F H):bH P N nb ops Q l (eZ (.tup []) T G) H:=by
 refine VS (λi=> ?_) h;rcases hf.spec i with e| ⟨e1,e2⟩
 ·exact .inl e
 ·exact .inr (by simp only[eZ,e1,if_true];exact e2)
theorem ID{l:List Oper}{T T' F:aD}{G G':Nat->Bool}{H H':aC}(hs:LA P N ops.toList l T G H=some (T',G',H'))(hok:l.all (λo=>cK N o.op)=true)(hf:fK T' G' F)(h:Q .normal F H'):
  bH P N nb ops Q l (eZ (.tup []) T G) H:=by
 have:=AM l [] T G H hok hs (VC (nb:=nb) (Q:=Q) hf (oN h))
 rwa [aT4]at this
theorem VQ{id:Nat}{T T' F:aD}{G':Nat->Bool}{H H':aC}(hs:LA P N ops.toList ops.toList T DS H=some (T',G',H'))(hok:ops.toList.all (λo=>cK N o.op)=true)(hf:fK T' G' F)(h:Q .normal F H'):eA P N nb (.region id ops false) Q T H:=
 wR (bO (ID hs hok hf h))
theorem pP{o:Oper}{l:List Oper}{T:aD}{G:Nat->Bool}{H:aC}{c:Bool}{f:FuncId}{args:List PV}{r:PV}(hcall:eO T o.op=some (f,args))(hc:dV ops.toList T G N o=some c)(hg:o.op.operands.toList.all (zH c G)=true)(hok:cK N o.op=true)
  (hgo:aP P f=true) (hp:c=true->aN P f args H λr' H''=>r'=r/\H''=H) (h:bH P N nb ops Q l (eZ (.tup []) (bU T o.dst r) (vV G o.dst c)) H):bH P N nb ops Q (o::l) (eZ (.tup []) T G) H:=by
 cases c
 ·rw[gQ]at h;exact xB (λE a ht=>vN ht hc) h
 ·rw[gG]at h;refine oP (f:=f) (args:=args) ?_ ((iO hc).1 rfl _) hok hgo (hp rfl) h;obtain⟨fo,xs,ts,pf,pc,e1,e2,e3⟩:=iZ hcall;rw[e1]at hg;simp only[Op.operands,Call.operands]at hg;have hall:=aTr.1 hg;unfold eO;rw[e1];simp only[lY (hall fo z6),e2];congr 2;rw[<-e3];congr 2;exact List.map_congr_left λx hx=>by rw[lY (hall x (by simp;right;simpa using hx))]
end
def uD:List (Nat×PV)->aD
 | []=>λ_=>.junk
 | (d,v)::l=>oF (uD l) d v
def rL(T:aD):List (Nat×PV)->Prop
 | []=>True
 | (d,v)::l=>T d=v/\rL T l
theorem sI{T:aD}:∀ {l:List (Nat×PV)},rL T l->∀i,uD l i= .junk\/uD l i=T i
 | [],_,i=>.inl rfl
 | (d,v)::l,h,i=>by
  simp only[uD,oF]
  split
  ·rename_i e;subst e;exact .inr h.1.symm
  ·exact sI h.2 i
def kI(n:Nat):List (Nat×PV)->Prop
 | []=>True
 | (_,v)::l=>aZ n v/\kI n l
theorem HD{n:Nat}:∀ {l:List (Nat×PV)},kI n l->∀i∈l.map Prod.fst,aZ n (uD l i)
 | [],_,i,hi=>by cases hi
 | (d,v)::l,h,i,hi=>by
  simp only[uD,oF]
  split
  ·exact h.1
  ·rename_i e;simp only[aTg,aTv]at hi;exact HD h.2 i (hi.resolve_left e)
theorem WZ{T:aD}:∀(l:List (Nat×PV)) (i:Nat),uD l i= .junk\/uD l i=keep (l.map Prod.fst) (uD l) i:=by
 intro l i;unfold keep
 split
 ·exact .inr rfl
 ·rename_i hi;refine .inl ?_
  induction l with
  |nil=>rfl
  |cons x l ih=>
   obtain⟨d,v⟩:=x;simp only[aTg,aTv,not_or]at hi;simp only[uD,oF,if_neg hi.1];exact ih hi.2
theorem oX{V:cS}{N:Nat}{a:Act}{T F:aD}(ht:eR V N a T)(hf:∀i,F i= .junk\/F i=T i):eR V N a F:=by
 refine⟨ht.size,ht.defers,λi hi=> ?_⟩;rcases hf i with e|e
 ·rw[e];exact .junk _
 ·rw[e];exact ht.rel i hi
theorem NB{E:aE}{N:Nat}{a:Act}{T:aD}(ht:eR E.view N a T){H1 L:aC}(hE:E.H=H1++L){l:List (Nat×PV)}(hf:rL T l)(hl:kI H1.length l):eR (E.cutH H1).view N a (uD l):=
 oX (DF (oX ht (sI hf)) hE (HD hl)) (WZ (T:=T) l)
theorem wW{T T2:aD}:∀ {l:List (Nat×PV)},(∀t∈l.map Prod.fst,T2 t=T t)->rL T l->rL T2 l
 | [],_,_=>trivial
 | (d,v)::l,h,hf=>⟨(h d z6).trans hf.1,wW (λt ht=>h t (by simp only[aTg,aTv];exact .inr ht)) hf.2⟩
theorem FA{T:aD}{n:Nat}:∀ {l:List (Nat×PV)},rL T l->kI n l->∀t∈l.map Prod.fst,aZ n (T t)
 | [],_,_,t,h=>by cases h
 | (d,v)::l,hf,hb,t,h=>by
  simp only[aTg,aTv]at h;rcases h with rfl|h
  ·rw[hf.1];exact hb.1
  ·exact FA hf.2 hb.2 t h
section
variable{P:Program}{N nb:Nat}{Q:dG}
theorem aEy{c:Code}{T:aD}{H:aC}(l:List (Nat×PV)){H1 L:aC}(hf:rL T l)(hH:H=H1++L)(hn:nb<=H1.length)(hb:jF H1.length H1)(hl:kI H1.length l)(h:eA P N nb c Q (uD l) H1):eA P N nb c Q T H:=by
 intro E a ho hE ht;have hE':E.H=H1++L:=hE.trans hH;exact wp_mono (h (E.cutH H1) a (ho.cutH hE' hb) rfl (NB ht hE' hf hl)) λe a w hl=>eP (aE.cutH_leN hE' hn) (λ_ _ _ q=>q) hl
theorem iD{c:Code}{T:aD}{H:aC}{σ:Type}(rep:σ->List (Nat×PV))(H0:aC)(hp:σ->aC)(m:σ->Nat)(fE:σ->Prop)(s0:σ)(L0:aC)(hT:rL T (rep s0))(hH:H=H0++hp s0++L0)(hg:fE s0)(hlen:∀s,fE s->nb<=(H0++hp s).length)
  (bel:∀s,fE s->jF (H0++hp s).length (H0++hp s)/\kI (H0++hp s).length (rep s))
  (round:∀s,fE s->eA P N nb c (aW (λT' H'=>∃s' L,m s'<m s/\rL T' (rep s')/\H'=H0++hp s'++L/\fE s') Q) (uD (rep s)) (H0++hp s)):eA P N nb (.loop c) Q T H:=by
 refine aEy (rep s0) hT hH (hlen s0 hg) (bel s0 hg).1 (bel s0 hg).2 ?_;intro E a ho hE ht
 let J:Nat->Act->World->Prop:=λn a w=>∃E' s,E'.w=w/\E.leN nb E'/\E'.Ok/\fE s/\n=m s/\eR E'.view N a (uD (rep s))/\E'.H=H0++hp s
 refine wp_loop (λa w=>∃n,J n a w) (λa w=>BN (λn=>J n a w)) ⟨m s0,E,s0,rfl, .refl nb E,ho,hg,rfl,ht,hE⟩ ?_;intro a1 w1 hJ;obtain⟨E1,s,hw1,hle,ho1,hgs,hms,ht1,hH1⟩:=tG hJ;have hr:=round s hgs E1 a1 ho1 hH1 ht1;rw[hw1]at hr;refine wp_mono hr ?_;intro e a' w' hl;obtain⟨E',T',rfl,h2,h3,h4,h5⟩:=hl;cases e with
 |normal=>
  obtain⟨s',L,hlt,hf,hE',hg'⟩:=h5;have hJ':J (m s') a' E'.w:=⟨E'.cutH (H0++hp s'),s',rfl,(hle.trans h2).trans (aE.cutH_leN hE' (hlen s' hg')),h3.cutH hE' (bel s' hg').1,hg',rfl,NB h4 hE' hf (bel s' hg').2,rfl⟩;exact⟨⟨m s',hJ'⟩,Nat.lt_of_le_of_lt (yP hJ') (by rw[hms];exact hlt)⟩
 |_=>exact⟨E',T',rfl,hle.trans h2,h3,h4,h5⟩
theorem eA.monoW{c:Code}{T:aD}{H:aC}{Q Q':dG}(h:eA P N nb c Q T H)(hq:∀e T H,Q e T H->∃T2,(∀i,T2 i= .junk\/T2 i=T i)/\Q' e T2 H):eA P N nb c Q' T H:=by
 intro E a ho hH ht;refine wp_mono (h E a ho hH ht) ?_;rintro e a' w' ⟨E',T',h1,h2,h3,h4,h5⟩;obtain⟨T2,k1,k2⟩:=hq _ _ _ h5;exact⟨E',T2,h1,h2,h3,oX h4 k1,k2⟩
theorem fN{T:aD}{H:aC}{σ:Type}(n:Nat)(rep:σ->List (Nat×PV))(dom:List Nat)(H0:aC)(hp:σ->aC)(fE:Nat->σ->Prop)(s0:σ)(L0:aC){b b1 i1 i2:Nat}{body:Code}{o1 o2 o3:Oper}{ti tn tc tt:Nat}{y1 y2:TypeId}
  (e1:o1.op= .binOp .lss y1 (.tmp ti) (.tmp tn) y2) (d1:o1.dst=some tc) (g1:o1.guard=none)
  (e2:o2.op= .binOp .add y1 (.tmp ti) (.const (.int .i64 1)) y2) (d2:o2.dst=some tt) (g2:o2.guard=none)
  (e3:o3.op= .move (.tmp tt)) (d3:o3.dst=some ti) (g3:o3.guard=none)
  (hbnd:ti<N/\tn<N/\tc<N/\tt<N) (hdis:ti≠tn/\ti≠tc/\tn≠tc/\tn≠tt/\ti≠tt/\ti∉dom/\tc∉dom/\tt∉dom) (hb:b≠b1) (hdom:∀s,(rep s).map Prod.fst=dom) (hn:n<=maxLen)
  (hT:rL T ((ti, .int .i64 0)::(tn, .int .i64 n)::rep s0)) (hH:H=H0++hp s0++L0) (hg:fE 0 s0) (hlen:∀i s,fE i s->nb<=(H0++hp s).length)
  (bel:∀i s,fE i s->jF (H0++hp s).length (H0++hp s)/\kI (H0++hp s).length (rep s))
  (round:∀(i:Nat) s,i<n->fE i s->eA P N nb body (λe T' H'=>
    let more:=rL T' ((ti, .int .i64 i)::(tn, .int .i64 n):: [])/\∃s' L,rL T' (rep s')/\H'=H0++hp s'++L/\fE (i+1) s'
    match e with
    | .normal=>more
    | .exit id=>if id=b1 then more else if id=b then Q .normal T' H' else Q (.exit id) T' H'
    |e=>Q e T' H') (uD ((ti, .int .i64 i)::(tn, .int .i64 n)::rep s)) (H0++hp s))
  (done:∀s,fE n s->Q .normal (uD (rep s)) (H0++hp s)):
  eA P N nb (.block b (.loop (.seq (.region i1 #[o1] false) (.seq (.cond (.tmp tc) .skip (.exit b)) (.seq (.block b1 body) (.region i2 #[o2,o3] false)))))) Q T H:=by
 have hb0:∀t∈ti::tn::dom,aZ (H0++hp s0).length (T t):=λt ht=>by
  simp only[aTv]at ht;rcases ht with rfl|rfl|ht
  ·rw[hT.1];exact .int _ _
  ·rw[hT.2.1];exact .int _ _
  ·exact FA hT.2.2 (bel 0 s0 hg).2 t (by rw[hdom];exact ht)
 refine aKu (ti::tn::dom) hH (hlen 0 s0 hg) (bel 0 s0 hg).1 hb0 ?_;have hk:∀t∈ti::tn::dom,keep (ti::tn::dom) T t=T t:=λt ht=>by unfold keep;rw[if_pos ht]
 refine eA.monoW (aF7 (Q:=λe T' H'=>match e with
   | .normal=>(∃s,fE n s/\rL T' (rep s)/\H'=H0++hp s)\/Q .normal T' H'
   |e=>Q e T' H') n dom (λi T H=>∃s,fE i s/\rL T (rep s)/\H=H0++hp s) e1 d1 g1 e2 d2 g2 e3 d3 g3 hbnd hdis hn hb ?_ ?_ ?_ ?_ ?_ ?_) ?_
 ·rw[hk _ z6];exact hT.1
 ·rw[hk _ z6];exact hT.2.1
 ·rintro i T T2 H h ⟨s,h1,h2,h3⟩;exact⟨s,h1,wW (λt ht=>h t (by rw[<-hdom s];exact ht)) h2,h3⟩
 ·exact⟨s0,hg,wW (λt ht=>hk t (by rw[hdom]at ht;simp[ht])) hT.2.2,rfl⟩
 ·rintro i T H hi ⟨s,h1,h2,rfl⟩ h3 h4;refine OF (sI (l:=(ti, .int .i64 i)::(tn, .int .i64 n)::rep s) ⟨h3,h4,h2⟩) ((round i s hi h1).mono ?_);have key:∀T' H',(rL T' ((ti, .int .i64 i)::(tn, .int .i64 n):: [])/\∃s' L,rL T' (rep s')/\H'=H0++hp s'++L/\fE (i+1) s')->
    T' ti= .int .i64 i/\T' tn= .int .i64 n/\∃H1 L,H'=H1++L/\nb<=H1.length/\jF H1.length H1/\(∀t∈dom,aZ H1.length (T' t))/\∃s,fE (i+1) s/\rL T' (rep s)/\H1=H0++hp s:=by
   rintro T' H' ⟨⟨k1,k2,_⟩,s',L,k3,k4,k5⟩;exact⟨k1,k2,H0++hp s',L,k4,hlen (i+1) s' k5,(bel _ _ k5).1,λt ht=>FA k3 (bel _ _ k5).2 t (by rw[hdom];exact ht),s',k5,k3,rfl⟩
  intro e T' H' he;cases e with
  |normal=>exact key T' H' he
  |exit id=>
   simp only at he⊢
   split at he
   ·rename_i hid;rw[if_pos hid];exact key T' H' he
   ·rename_i hid;rw[if_neg hid]
    split at he
    ·rename_i hid2;rw[if_pos hid2];exact .inr he
    ·rename_i hid2;rw[if_neg hid2];exact he
  |_=>exact he
 ·rintro T H ⟨s,h1,h2,h3⟩;exact .inl ⟨s,h1,h2,h3⟩
 ·intro e T' H' he;cases e with
  |normal=>
   rcases he with⟨s,h1,h2,rfl⟩|he
   ·exact⟨uD (rep s),sI h2,done s h1⟩
   ·exact⟨T',λi=>.inr rfl,he⟩
  |_=>exact⟨T',λi=>.inr rfl,he⟩
end
section
variable{P:Program}{N nb:Nat}{ops:Array Oper}{Q:dG}
theorem sT{k:Nat}{o:Oper}{l:List Oper}{prev:fD}{T:aD}{G:Nat->Bool}{H:aC}(rd:List Nat)(hap:∀p∈prev,((cL ops.toList).getD k 0).testBit p.1=true\/((∀id∈p.2.2,id∉rd)/\∀e'∈([]:List (Nat×AObj)),e'.1∉p.2.1))(hw:dV ops.toList T G N o=some false)(h:iI P N ops Q (k+1) l (prev++ [(k,rd,[])]) (bU (eZ (.tup []) T G) o.dst (.tup [])) H):iI P N ops Q k (o::l) prev (eZ (.tup []) T G) H:=
  ⟨.tup [],[],rd,λT' H' hT _ _ E a ho hE ht=>.inl ⟨yI ht (λj want d hg hd=>hT d (by unfold rF;rw[hg];simp only[hd];simp)) hw,rfl, .inr rfl⟩,z6,hap,h⟩
theorem aDa{u:PV}{T:aD}{G:Nat->Bool}{o:Op}(h:∀x∈o.operands.toList,bT (eZ u T G) x=bT T x):mU (eZ u T G) o=mU T o:=by
  cases o with
  |load t x=>simp only[mU,h x (by simp[Op.operands])]
  |store t x y=>simp only[mU,h x (by simp[Op.operands])]
  |lookup t x y ok=>simp only[mU,h x (by simp[Op.operands])]
  |mapUpdate t x y z=>simp only[mU,h x (by simp[Op.operands])]
  |call c=>
    simp only[mU]
    split
    · split
      · rename_i x l hx
        rw[h x (by
          simp only[Op.operands,Call.operands];simp;right;have:x∈c.args.toList:=by rw[hx];simp
          simpa using this)]
      · rfl
    · rfl
  |_=>rfl
theorem WB{fresh:Nat}{u:PV}{T:aD}{G:Nat->Bool}{H:aC}{o:Op}{r:PV×qD}(h:wG P fresh true T G H o=some r):mU (eZ u T G) o=mU T o:=by
  cases o with
  |pick x a b=>rfl
  |_=>
    simp only[wG]at h
    split at h
    · rename_i hall
      exact aDa λx hx=>lY (aTr.1 hall x hx)
    · cases h
theorem xD{bm:List Nat}{k fresh:Nat}{o:Oper}{l:List Oper}{prev:fD}{T:aD}{G:Nat->Bool}{H:aC}{c:Bool}{r:PV×qD}(hbm:cL ops.toList=bm)(hok:cK N o.op=true)(hc:dV ops.toList T G N o=some c)(hr:wG P fresh c T G H o.op=some r)(hf:iA fresh r.2 H=true)(hap:nM (bm.getD k 0) prev (mU T o.op++dU r.2) (dU r.2)=true)(h:iI P N ops Q (k+1) l (prev++ [(k,mU T o.op++dU r.2,dU r.2)]) (eZ (.tup []) (bU T o.dst r.1) (vV G o.dst c)) (mG r.2 H)):iI P N ops Q k (o::l) prev (eZ (.tup []) T G) H:=by
  obtain⟨v,e⟩:=r;have hids:dU e=(DN e).map (·.1):=by cases e<;>rfl
  have hset:mG e H=lQ H (DN e):=by cases e<;>rfl
  cases c
  · obtain rfl:e=none:=HU hr
    rw[gQ]at h;exact sT _ (lM (eff:= []) (by rw[hbm];exact hap)) hc h
  · rw[gG]at h
    have hr':=ND (u:=.tup []) hr;have hard:=WB (u:=.tup []) hr;simp only at hf hap h;rw[hids,<-hard]at hap;rw[hids,hset,<-hard]at h;refine TU false fresh ((iO hc).1 rfl _) hok hr' (λob he=> ?_) rfl rfl (lM (by rw[hbm];exact hap)) h;subst he;simp only[iA,if_true]at hf;exact wP hf
theorem HX{id:Nat}{ops:Array Oper}{T:aD}{H:aC}(m:Nat)(hok:mP P ops.toList=true)(h:iI P N ops (λe T1 H1=>∃T2,(∀i,T2 i= .junk\/T2 i=T1 i)/\Q e T2 H1) 0 ops.toList [] T (H++aS6 m .unborn)):eA P N nb (.region id ops true) Q T H:=
  eA.monoW (lU m hok h) λ_ _ _ he=>he
theorem zQ{u:PV}{T:aD}{G:Nat->Bool}{o:Op}{f:FuncId}{args:List PV}(hcall:eO T o=some (f,args))(hg:o.operands.toList.all (zH true G)=true):eO (eZ u T G) o=some (f,args):=by
  obtain⟨fo,xs,ts,pf,pc,e1,e2,e3⟩:=iZ hcall;rw[e1]at hg;simp only[Op.operands,Call.operands]at hg;have hall:=aTr.1 hg;unfold eO;rw[e1];simp only[lY (hall fo z6),e2];congr 2;rw[<-e3];congr 2;exact List.map_congr_left λx hx=>by rw[lY (hall x (by simp;right;simpa using hx))]
end
theorem tN(n:Nat):((n:Int)).toNat=n:=rfl
theorem aAl(G:Nat->Bool)(d:Nat)(c:Bool)(i:Nat):ug G d c i=if i=d then c else G i:=rfl
theorem YK(G:Nat->Bool)(d:Nat)(c:Bool):vV G (some d) c=ug G d c:=rfl
theorem aCj(G:Nat->Bool)(c:Bool):vV G none c=G:=rfl
theorem PU(i:Nat):DS i=true:=rfl
theorem aDr(a b:PV):pk true a b=a:=rfl
theorem aBx(a b:PV):pk false a b=b:=rfl
theorem aMy(c x:Bool):pk c (.bool x) (.bool false)= .bool (c&&x):=by cases c<;>rfl
theorem aP8(c x:Bool):pk c (.bool true) (.bool x)= .bool (c||x):=by cases c<;>rfl
theorem aDq(b:Bool):(b==true)=b:=by cases b<;>rfl
theorem aAr(b:Bool):(b==false)= !b:=by cases b<;>rfl
theorem aBo(b:Bool):(!b||b)=true:=by cases b<;>rfl
theorem ZJ(b:Bool):(b|| !b)=true:=by cases b<;>rfl
theorem aFt(c:Bool)(G:Nat->Bool)(t:Nat):zH c G (.tmp t)=(!c||G t):=rfl
theorem UY(c:Bool)(G:Nat->Bool)(v:Value):zH c G (.const v)=true:=rfl
theorem YT(c:Bool)(G:Nat->Bool)(f:FuncId):zH c G (.func f)=true:=rfl
theorem SG:(∀(G:Nat->Bool) (d:Nat) (c:Bool) (i:Nat),ug G d c i=if i=d then c else G i)/\(∀(G:Nat->Bool) (d:Nat) (c:Bool),vV G (some d) c=ug G d c)/\(∀(G:Nat->Bool) (c:Bool),vV G none c=G)/\
  (∀i,DS i=true)/\(∀a b:PV,pk true a b=a)/\(∀a b:PV,pk false a b=b)/\(∀c x:Bool,pk c (.bool x) (.bool false)= .bool (c&&x))/\(∀c x:Bool,pk c (.bool true) (.bool x)= .bool (c||x))/\
  (∀b:Bool,(b==true)=b)/\(∀b:Bool,(b==false)= !b)/\(∀b:Bool,(!b||b)=true)/\(∀b:Bool,(b|| !b)=true)/\
  (∀(c:Bool) (G:Nat->Bool) (t:Nat),zH c G (.tmp t)=(!c||G t))/\(∀(c:Bool) (G:Nat->Bool) (v:Value),zH c G (.const v)=true)/\(∀(c:Bool) (G:Nat->Bool) (f:FuncId),zH c G (.func f)=true):=
 ⟨aAl,YK,aCj,PU,aDr,aBx,aMy,aP8,aDq,aAr,aBo,ZJ,aFt,UY,YT⟩
theorem MC(d:Nat)(v:PV)(l:List (Nat×PV))(i:Nat):uD ((d,v)::l) i=if i=d then v else uD l i:=rfl
theorem RS(i:Nat):uD [] i= .junk:=rfl
theorem kI.nil{n:Nat}:kI n []:=trivial
theorem kI.cons{n d:Nat}{v:PV}{l:List (Nat×PV)}(h:aZ n v)(hl:kI n l):kI n ((d,v)::l):=⟨h,hl⟩
theorem iK{n m:Nat}{H L:aC}(h:jF m H)(hm:m<=n)(hl:jF n L):jF n (H++L):=λo ho=>by
 rcases aTs.1 ho with h'|h'
 ·have:=h o h';cases o with
  |row cs=>exact λc hc=>(this c hc).mono hm
  |obj k=>cases k with
   |iter s p=>trivial
   |mapo es=>exact λe he=>(this e he).mono hm
   |miter im k seen=>exact aSn this hm
  |_=>trivial
 ·exact hl o h'
theorem cR(n:Nat):aZ n (.slice [] .full):=.slice _ _ z6 z6
theorem cT(n:Nat):aZ n (.slice [] .none):=.slice _ _ z6 z6
theorem iX(n:Nat):GH n (.row []):=λc hc=>by cases hc
theorem gY{n:Nat}{c:PV}{cs:List PV}(h:aZ n c)(hc:GH n (.row cs)):GH n (.row (c::cs)):=λx hx=>by
 rcases aTv.1 hx with rfl|hx
 ·exact h
 ·exact hc x hx
theorem cW{P:Program}{N:Nat}{T:aD}{H:aC}{rs:List ResultVar}(r1 r2:ResultVar){v1 v2:PV}(hrs:rs= [r1,r2])(h1:kY P N T H r1=some v1)(h2:kY P N T H r2=some v2):fP P N T H rs=some (.tup [v1.drop1,v2.drop1]):=by
 subst hrs;simp only[fP,List.mapM_cons,List.mapM_nil,h1,h2,Option.bind_eq_bind,aSy,Option.pure_def,aS1,aTg,aT6]
theorem xG{P:Program}{N:Nat}{T:aD}{H:aC}{rs:List ResultVar}(r1 r2 r3:ResultVar){v1 v2 v3:PV}(hrs:rs= [r1,r2,r3])(h1:kY P N T H r1=some v1)(h2:kY P N T H r2=some v2)(h3:kY P N T H r3=some v3):fP P N T H rs=some (.tup [v1.drop1,v2.drop1,v3.drop1]):=by
 subst hrs;simp only[fP,List.mapM_cons,List.mapM_nil,h1,h2,h3,Option.bind_eq_bind,aSy,Option.pure_def,aS1,aTg,aT6]
theorem fO{P:Program}{N:Nat}{T:aD}{H:aC}{t:Nat}{ty:TypeId}{i:TI}{r:PV}(hi:cV P ty=some i)(ht:t<N)(h:iQ i H (T t)=some r):kY P N T H (.cell t ty)=some r:=by
 simp only[kY,if_pos ht,hi,aSy];exact h
theorem aR{P:Program}{N:Nat}{T:aD}{H:aC}{t:Nat}(ht:t<N):kY P N T H (.tmp t)=some (T t):=if_pos ht
theorem LS:(∀ {α:Type} (p:α->Bool) (a:α) (l:List α),(a::l).all p=(p a&&l.all p))/\(∀ {α:Type} (p:α->Bool),([]:List α).all p=true)/\
  (∀ {α:Type} (n:Nat) (a:α),aS6 (n+1) a=a::aS6 n a)/\(∀ {α:Type} (a:α),aS6 0 a= [])/\
  (∀ {α:Type} (n:Nat) (a:α) (l:List α),(a::l).take (n+1)=a::l.take n)/\(∀ {α:Type} (l:List α),l.take 0= [])/\(∀ {α:Type} (n:Nat),([]:List α).take n= [])/\
  (∀ {α:Type} (n:Nat) (a:α) (l:List α),(a::l).drop (n+1)=l.drop n)/\(∀ {α:Type} (l:List α),l.drop 0=l)/\
  (∀ {α β:Type} (a:α) (f:α->Option β),(some a).bind f=f a)/\
  (∀ {α:Type} (a d:α) (l:List α),(a::l).getD 0 d=a)/\(∀ {α:Type} (a d:α) (l:List α) (n:Nat),(a::l).getD (n+1) d=l.getD n d)/\
  (∀ {α:Type} (a:α) (l:List α),(a::l)[0]? =some a)/\(∀ {α:Type} (a:α) (l:List α) (n:Nat),(a::l)[n+1]? =l[n]?)/\(∀ {α:Type} (n:Nat),([]:List α)[n]? =none)/\
  (∀ {α:Type} (a:α) (l:List α),(a::l).length=l.length+1)/\(∀ {α:Type},([]:List α).length=0)/\(∀ {α:Type} (a b:List α),(a++b).length=a.length+b.length)/\(∀ {α β:Type} (f:α->β) (l:List α),(l.map f).length=l.length)/\
  (∀ {α:Type} (a b:α) (l:List α),(a::l).set 0 b=b::l)/\(∀ {α:Type} (a b:α) (l:List α) (n:Nat),(a::l).set (n+1) b=a::l.set n b)/\
  (∀ {α:Type} (a b c:List α),a++b++c=a++(b++c))/\(∀ {α:Type} (x:α) (a b:List α),x::a++b=x::(a++b))/\(∀ {α:Type} (a:List α),[]++a=a)/\(∀ {α:Type} (a:List α),a++ []=a)/\
  (∀ {α:Type} (a:α),(some a).isSome=true)/\(∀ {α:Type},(none:Option α).isSome=false)/\
  ((false=true)=False)/\(∀b:Bool,(b&&true)=b)/\(∀b:Bool,(true&&b)=b)/\(∀b:Bool,(b&&b)=b)/\((!true)=false)/\((!false)=true)/\(∀b:Bool,(!(!b))=b)/\
  (∀b:Bool,(b&&false)=false)/\(∀b:Bool,(false&&b)=false)/\(∀p:Prop,(p/\True)=p)/\(∀p:Prop,(True/\p)=p)/\(∀p:Prop,(p/\p)=p)/\
  (decide True=true)/\(decide False=false)/\(∀n:Nat,(n==n)=true)/\
  (∀ {α β:Type} (f:α->β) (a:α) (l:List α),(a::l).map f=f a::l.map f)/\(∀b:Bool,(b||false)=b)/\(∀b:Bool,(false||b)=b)/\(∀b:Bool,(b||true)=true)/\(∀b:Bool,(true||b)=true)/\
  (∀n:Nat,n+0=n)/\(∀n:Nat,0+n=n)/\(∀ {α:Type} (l:List α),l.toArray.toList=l)/\
  (∀(a b:Nat) (l:List Nat),(b::l).contains a=(a==b||l.contains a))/\(∀a:Nat,([]:List Nat).contains a=false)/\(∀ {α:Type} (a b:α),(if True then a else b)=a)/\(∀ {α:Type} (a b:α),(if False then a else b)=b):=by
 refine⟨?_, ?_, ?_, ?_, ?_, ?_, ?_, ?_, ?_, ?_, ?_, ?_, ?_, ?_, ?_, ?_, ?_, ?_, ?_, ?_, ?_, ?_, ?_, ?_, ?_, ?_, ?_, ?_, ?_, ?_, ?_, ?_, ?_, ?_, ?_, ?_, ?_, ?_, ?_, ?_, ?_, ?_, ?_, ?_, ?_, ?_, ?_, ?_, ?_, ?_, ?_, ?_, ?_, ?_⟩<;>first| (intros;rfl)|simp[List.replicate_succ]
theorem SX:(∀vs:List PV,(PV.tup vs).drop1= .tup vs)/\(∀vs:List PV,(PV.tup vs).isJunk=false)/\(PV.nilfn.drop1= .nilfn)/\(∀(c:Bool),(!decide (c=true))= !c)/\(∀(c:Bool),decide (c=true)=c)/\(∀(i:Nat),(Int.toNat (i:Int))=i):=
 ⟨λ_=>rfl,λ_=>rfl,rfl,λc=>by cases c<;>rfl,λc=>by cases c<;>rfl,λi=>tN i⟩
open Classical in
noncomputable def aE.frz(E:aE)(H1:aC):aE:=
 {E with κ:=λb=>if ∃id cs,H1.length<=id/\E.H[id]? =some (.row cs)/\E.ρ id=b then .fixed else E.κ b,H:=H1}
section frz
variable{E:aE}(ho:E.Ok){H1 L:aC}(hE:E.H=H1++L)
theorem aE.frz_cell(a:Addr)(v:Value)(h:E.view.cell a=some v):(E.frz H1).view.cell a=some v:=by
 simp only[aE.view]at h⊢
 split at h
 ·rename_i hs;have:((E.frz H1).κ a.block).stable a.off=true:=by
   simp only[aE.frz]
   split
   ·rfl
   ·exact hs
  rw[if_pos this];exact h
 ·cases h
include ho hE in
theorem aE.frz_tok{id:Nat}(hid:id<H1.length){t:WN}(h:(E.frz H1).view.tok id=some t):E.view.tok id=some t:=by
 have e1:(E.frz H1).H[id]? =E.H[id]? :=by show H1[id]? =_;rw[mC hE hid]
 simp only[aE.view,e1]at h⊢
 split at h
 ·rename_i n sz hi;rw[<-h];show some (WN.mk n sz ((E.tb id).bind _))=some (WN.mk n sz ((E.tb id).bind _));cases htb:E.tb id with
  |none=>rfl
  |some b=>
   simp only[aSy];have hκ:(E.frz H1).κ b=E.κ b\/((E.frz H1).κ b= .fixed/\E.κ b= .mut):=by
    simp only[aE.frz]
    split
    ·rename_i hx;obtain⟨id',cs,_,h2,h3⟩:=hx;obtain⟨_,_,_,_,_,h4⟩:=ho.rows id' cs h2;rw[h3]at h4;exact .inr ⟨rfl,h4⟩
    ·exact .inl rfl
   rcases hκ with e| ⟨e,e'⟩
   ·rw[e]
   ·rw[e,e']
 ·cases h
include ho hE in
theorem aE.frz_rel{v:Value}{p:PV}(h:aL E.view v p)(hp:aZ H1.length p):aL (E.frz H1).view v p:=by
 refine aL.cut (V:=E.view) (V':=(E.frz H1).view) (n:=H1.length) aE.frz_cell (λid hid hb=>⟨?_,rfl,λt ht=>aE.frz_tok ho hE hid ht⟩) h hp;obtain⟨o,h1,h2⟩:=hb;exact⟨o,by show H1[id]? =some o;rw[<-mC hE hid];exact h1,h2⟩
include ho hE in
theorem aE.Ok.frz(hb:jF H1.length H1):(E.frz H1).Ok:=by
 have hg:∀ {id:Nat} {o:AObj},H1[id]? =some o->E.H[id]? =some o:=λh=>by rw[mC hE (lG h)];exact h
 refine⟨?_, ?_, ?_, ?_,ho.globs_of aE.frz_cell λid b vs hi=>hg hi,⟨λid k hi=> ?_,λid id' k k' h1 h2 e=>ho.objs.inj id id' k k' (hg h1) (hg h2) e⟩⟩
 rotate_left 4
 ·obtain⟨⟨o,a1,a2⟩,a3⟩:=ho.objs.at_ id k (hg hi);refine⟨⟨o,a1,a2.cut (λv p hv hp=>aE.frz_rel ho hE hv hp) (hb _ (List.mem_of_getElem? hi))⟩, ?_⟩;simp only[aE.frz];rw[if_neg]
  ·exact a3
  ·rintro⟨id',cs',h5,h6,h7⟩;obtain⟨_,_,h8,_⟩:=ho.rows id' cs' h6;rw[h7,a1]at h8;cases h8;exact a2.cells
 ·intro id cs hi;obtain⟨arr,elem,h1,h2,h3,h4⟩:=ho.rows id cs (hg hi);have hm:AObj.row cs∈H1:=List.mem_of_getElem? hi;refine⟨arr,elem,h1,h2,λi hl=>aE.frz_rel ho hE (h3 i hl) (hb _ hm _ (aTk hl)), ?_⟩;simp only[aE.frz];rw[if_neg]
  ·exact h4
  ·rintro⟨id',cs',h5,h6,h7⟩;have:=ho.injr id' id cs' cs h6 (hg hi) h7;have:id<H1.length:=lG (H:=H1) hi;omega
 ·intro id n sz b hi hb';obtain⟨arr,elem,pos,h1,h2⟩:=ho.bufs id n sz b (hg hi) hb';refine⟨arr,elem,pos,h1, ?_⟩;simp only[aE.frz];rw[if_neg]
  ·exact h2
  ·rintro⟨id',cs',h5,h6,h7⟩;obtain⟨_,_,_,_,_,h8⟩:=ho.rows id' cs' h6;rw[h7,h2]at h8;cases h8
 ·intro id id' cs cs' h1 h2 e;exact ho.injr id id' cs cs' (hg h1) (hg h2) e
 ·intro id id' n sz n' sz' b h1 h2 e e';exact ho.injb id id' n sz n' sz' b (hg h1) (hg h2) e e'
end frz
def Frz(H:aC)(n:Nat)(p v:PV):Prop:=
 (p=v/\aZ n v)\/∃id k c sz es,p= .msl id 0 k c/\n<=id/\H[id]? =some (.row (aH es))/\k<=es.length/\k<=c/\(∀e∈es,e.cells.length=sz)/\(∀e∈es,∀x∈e.cells,aZ n x)/\v= .slice (es.take k) .none
theorem Frz.same{H:aC}{n:Nat}{v:PV}(h:aZ n v):Frz H n v v:=.inl ⟨rfl,h⟩
section
variable{P:Program}{N nb:Nat}{Q:dG}
end
inductive Ty where
 |mk (kind id:Int) (args:List Ty)
def Ty.kind:Ty->Int| .mk k _ _=>k
def Ty.id:Ty->Int| .mk _ i _=>i
def Ty.args:Ty->List Ty| .mk _ _ gs=>gs
mutual
def Ty.enc:Ty->PV
 | .mk k i gs=>.agg [.int .i64 k, .int .i64 i, .slice (QI gs) .none]
def QI:List Ty->List PV
 | []=> []
 |t::ts=>t.enc::QI ts
end
theorem aEh(ts:List Ty):QI ts=ts.map Ty.enc:=by
 induction ts with
 |nil=>rfl
 |cons t ts ih=>simp[QI,ih]
theorem Ty.enc_eq(t:Ty):t.enc= .agg [.int .i64 t.kind, .int .i64 t.id, .slice (t.args.map Ty.enc) .none]:=by
 cases t;simp[Ty.enc,aEh,Ty.kind,Ty.id,Ty.args]
theorem Ty.enc_cells(t:Ty):t.enc.cells= [.int .i64 t.kind, .int .i64 t.id, .slice (t.args.map Ty.enc) .none]:=by
 rw[Ty.enc_eq];rfl
theorem Ty.enc_drop1(t:Ty):t.enc.drop1=t.enc:=by rw[Ty.enc_eq];rfl
theorem Ty.enc_len(t:Ty):t.enc.cells.length=3:=by rw[Ty.enc_cells];rfl
theorem Ty.enc_junk(t:Ty):t.enc.isJunk=false:=by rw[Ty.enc_eq];rfl
mutual
theorem Ty.bel(n:Nat):∀t:Ty,aZ n t.enc
 | .mk k i gs=>.agg _ (by
   intro c hc;simp only[aTv,aT7,or_false]at hc;rcases hc with rfl|rfl|rfl
   ·exact .int _ _
   ·exact .int _ _
   ·exact .slice _ _ (aGe n gs) (λid h=>by cases h))
theorem aGe(n:Nat):∀ts:List Ty,∀e∈QI ts,∀c∈e.cells,aZ n c
 | []=>λe he=>by simp[QI]at he
 |t::ts=>λe he c hc=>by
  simp only[QI,aTv]at he;rcases he with rfl|he
  ·have h:=Ty.bel n t;rw[Ty.enc_eq]at h hc;cases h with
   |agg _ q=>exact q c hc
  ·exact aGe n ts e he c hc
end
mutual
def Ty.size:Ty->Nat
 | .mk _ _ gs=>1+Ty.sizes gs
def Ty.sizes:List Ty->Nat
 | []=>0
 |t::ts=>t.size+Ty.sizes ts
end
theorem aY{n:Int}(h0: -9223372036854775808<=n)(h:n<=9223372036854775807):IntKind.i64.wrap n=n:=by
 simp[IntKind.wrap,IntKind.bits,IntKind.signed];omega
inductive Ty.W:Ty->Prop
 |mk {k i:Int} {us:List Ty} (hl:us.length*40<=2^47) (h:∀u∈us,u.W):(Ty.mk k i us).W
theorem Ty.W.len{t:Ty}(h:t.W):t.args.length*40<=2^47:=by cases h;assumption
mutual
def Ty.eqb:Ty->Ty->Bool
 | .mk k i us, .mk k' i' vs=>decide (k=k')&&(decide (i=i')&&QY us vs)
def QY:List Ty->List Ty->Bool
 | [],[]=>true
 |u::us,v::vs=>u.eqb v&&QY us vs
 |_,_=>false
end
mutual
theorem Ty.eqb_iff:∀a b:Ty,a.eqb b=true↔a=b
 | .mk k i us, .mk k' i' vs=>by
  simp only[Ty.eqb,aSe,decide_eq_true_eq,Ty.mk.injEq,NY us vs]
theorem NY:∀us vs:List Ty,QY us vs=true↔us=vs
 | [],[]=>by simp[QY]
 | [],v::vs=>by simp[QY]
 |u::us,[]=>by simp[QY]
 |u::us,v::vs=>by simp[QY,Ty.eqb_iff u v,NY us vs]
end
instance:DecidableEq Ty:=λa b=>decidable_of_iff (a.eqb b=true) (Ty.eqb_iff a b)
theorem iC(n:Nat)(f:Fn):aZ n (.fn f [] []):=.fn _ _ _ z6 z6
abbrev aB(n:Int):PV:=.int .i64 n
theorem LD(n:Nat)(xs:List Int)(tl:jM)(ht:∀id,tl= .tok id->id<n):aZ n (.slice (xs.map aB) tl):=
 .slice _ _ (λe he c hc=>by obtain⟨x,_,rfl⟩:=aTq.1 he;simp[PV.cells]at hc;subst hc;exact .int _ _) ht
section
variable{P:Program}{N nb:Nat}{ops:Array Oper}{Q:dG}
end
section
variable{P:Program}{N:Nat}
end
theorem dY(us:List Ty):(aH (us.map Ty.enc)).length=us.length*3:=by
 have h3:∀e∈us.map Ty.enc,e.cells.length=3:=λe he=>by obtain⟨t,_,rfl⟩:=aTq.1 he;exact Ty.enc_len t
 rw[bQ _ h3,aSr]
theorem Ty.fold(k i:Int)(us:List Ty):PV.agg [.int .i64 k, .int .i64 i, .slice (us.map Ty.enc) .none]=(Ty.mk k i us).enc:=(Ty.enc_eq (Ty.mk k i us)).symm
theorem Ty.eta(t:Ty):Ty.mk t.kind t.id t.args=t:=by cases t;rfl
theorem eD(n:Nat)(xs:List Int):aZ n (.slice (xs.map aB) .none):=LD n xs .none (λ_ h=>by cases h)
def uN{α:Type}(p:α->Bool)(xs:List α):Int:=match xs.findIdx? p with|some i=>i|none=> -1
theorem vH{α:Type}(p:α->Bool)(xs:List α):decide (uN p xs>=0)=xs.any p:=by
 unfold uN;rw[aTu,decide_eq_true_eq,List.any_eq_true];cases h:xs.findIdx? p with
 |none=>
  rw[List.findIdx?_eq_none_iff]at h;constructor
  ·intro h';simp at h'
  ·rintro⟨x,hx,hp⟩;rw[h x hx]at hp;cases hp
 |some i=>
  obtain⟨hi,h1,h2⟩:=List.findIdx?_eq_some_iff_getElem.1 h;exact⟨λ_=>⟨xs[i],aTk hi,h1⟩,λ_=>z6⟩
theorem JJ{α:Type}{p:α->Bool}{xs:List α}{i:Nat}(hi:i<xs.length)(h:p xs[i]=true)(h':(xs.take i).any p=false):uN p xs=i:=by
 unfold uN;have:xs.findIdx? p=some i:=by
  rw[List.findIdx?_eq_some_iff_getElem];refine⟨hi,h,λj hj=> ?_⟩;rw[List.any_eq_false]at h';have:=h' xs[j] (by rw[List.mem_take_iff_getElem];exact⟨j,z8,rfl⟩);simpa using this
 rw[this]
theorem AH{α:Type}{p:α->Bool}{xs:List α}(h':xs.any p=false):uN p xs= -1:=by
 unfold uN;have:xs.findIdx? p=none:=by
  rw[List.findIdx?_eq_none_iff];intro x hx;rw[List.any_eq_false]at h';simpa using h' x hx
 rw[this]
theorem eS{α:Type}{p:α->Bool}{xs:List α}{i:Nat}(hi:i<xs.length)(h:(xs.take i).any p=false)(hp:p xs[i]=false):(xs.take (i+1)).any p=false:=by
 rw[aT8 hi,List.any_append,h];simp[hp]
theorem eH{α:Type}(f:α->PV){xs:List α}{i:Nat}(hi:i<xs.length):(xs.map f)[i]? =some (f xs[i]):=by simp[hi]
theorem bS{i n:Nat}(h:i<n):((0:Int)<=i/\(i:Int)<n)=True:=by simp;omega
structure aR3(P:Program){α:Type}(en:α->PV)(f:FuncId)(caps:List PV)(H:aC)(xs:List α)(p:α->Bool):Prop where
 go:aP P f=true
 bel:∀c∈caps,aZ H.length c
 call:∀u∈xs,aN P f (en u::caps) H λr' H'=>r'= .bool (p u)/\H'=H
theorem wL{P:Program}{N nb:Nat}{Q:dG}{c:Code}{T:aD}{H:aC}(live:List Nat){l:List (Nat×PV)}(hl:live.map (λd=>(d,T d))=l)(h:eA P N nb c Q (uD l) H):eA P N nb c Q T H:=by
 refine OF (λi=> ?_) h;subst hl;clear h
 induction live with
 |nil=>exact .inl rfl
 |cons d live ih=>
  simp only[aTg,uD,oF]
  split
  ·rename_i e;subst e;exact .inr rfl
  ·exact ih
section
variable(P:Program)(N:Nat)(ops:List Oper)
def as2(o:Oper)(T:aD)(H:aC):Option (PV×qD)->Option (aD×aC)
 |some r=>some (bU T o.dst r.1,yE H r.2)
 |none=>none
def as1(o:Oper)(T:aD)(H:aC):Option Bool->Option (aD×aC)
 |some true=>as2 o T H (eU P false H.length T H o.op)
 |some false=>some (bU T o.dst .junk,H)
 |none=>none
def as0(o:Oper):Option (aD×aC)->Option (aD×aC)
 |some (T,H)=>as1 P o T H (aU ops T N o)
 |none=>none
def AE:List Oper->Option (aD×aC)->Option (aD×aC)
 | [],s=>s
 |o::l,s=>AE l (as0 P N ops o s)
theorem EC:∀l,AE P N ops l none=none
 | []=>rfl
 |o::l=>EC l
theorem ET:∀(l:List Oper) (T:aD) (H:aC),AE P N ops l (some (T,H))=DT P N ops l T H
 | [],T,H=>rfl
 |o::l,T,H=>by
  simp only[AE,as0,DT];cases hw:aU ops T N o with
  |none=>exact EC P N ops l
  |some b=>
   cases b
   ·exact ET l _ _
   ·simp only[as1];cases ha:eU P false H.length T H o.op with
    |none=>exact EC P N ops l
    |some r=>exact ET l _ _
def PE(o:Oper)(T:aD)(G:Nat->Bool)(H:aC)(c:Bool):Option (PV×qD)->Option (aD×(Nat->Bool)×aC)
 |some r=>some (bU T o.dst r.1,vV G o.dst c,yE H r.2)
 |none=>none
def OJ(o:Oper)(T:aD)(G:Nat->Bool)(H:aC):Option Bool->Option (aD×(Nat->Bool)×aC)
 |some c=>PE o T G H c (wG P H.length c T G H o.op)
 |none=>none
def gs0(o:Oper):Option (aD×(Nat->Bool)×aC)->Option (aD×(Nat->Bool)×aC)
 |some (T,G,H)=>OJ P o T G H (dV ops T G N o)
 |none=>none
def NO:List Oper->Option (aD×(Nat->Bool)×aC)->Option (aD×(Nat->Bool)×aC)
 | [],s=>s
 |o::l,s=>NO l (gs0 P N ops o s)
theorem EK:∀l,NO P N ops l none=none
 | []=>rfl
 |o::l=>EK l
theorem KI:∀(l:List Oper) (T:aD) (G:Nat->Bool) (H:aC),NO P N ops l (some (T,G,H))=LA P N ops l T G H
 | [],T,G,H=>rfl
 |o::l,T,G,H=>by
  simp only[NO,gs0,LA];cases hw:dV ops T G N o with
  |none=>exact EK P N ops l
  |some c=>
   simp only[OJ,aSy];cases ha:wG P H.length c T G H o.op with
   |none=>exact EK P N ops l
   |some r=>exact KI l _ _ _
abbrev DSt:=Nat×Nat×fD×aD×aC
def QP(o:Oper)(k fresh:Nat)(prev:fD)(T:aD)(H:aC)(r:PV×qD)(rd eids:List Nat):Bool->Bool->Option DSt
 |true,true=>some (k+1,iJ fresh r.2,prev++ [(k,rd,eids)],bU T o.dst r.1,mG r.2 H)
 |_,_=>none
def ds2(bm:List Nat)(o:Oper)(k fresh:Nat)(prev:fD)(T:aD)(H:aC):Option (PV×qD)->Option DSt
 |some r=>QP o k fresh prev T H r (mU T o.op++dU r.2) (dU r.2) (iA fresh r.2 H) (nM (bm.getD k 0) prev (mU T o.op++dU r.2) (dU r.2))
 |none=>none
def DE(bm:List Nat)(o:Oper)(k fresh:Nat)(prev:fD)(T:aD)(H:aC):Option Bool->Option DSt
 |some true=>ds2 bm o k fresh prev T H (eU P false fresh T H o.op)
 |some false=>some (k+1,fresh,prev++ [(k,[],[])],bU T o.dst .junk,H)
 |none=>none
def ds0(bm:List Nat)(o:Oper):Option DSt->Option DSt
 |some (k,fresh,prev,T,H)=>DE P bm o k fresh prev T H (aU ops T N o)
 |none=>none
def dsq(bm:List Nat):List Oper->Option DSt->Option DSt
 | [],s=>s
 |o::l,s=>dsq bm l (ds0 P N ops bm o s)
theorem vD(bm:List Nat):∀l,dsq P N ops bm l none=none
 | []=>rfl
 |o::l=>vD bm l
theorem KO(bm:List Nat):∀(l:List Oper) (k fresh:Nat) (prev:fD) (T:aD) (H:aC) {k' fresh' prev' T' H'},dsq P N ops bm l (some (k,fresh,prev,T,H))=some (k',fresh',prev',T',H')->LU P N ops bm l k fresh prev T H=some (fresh',prev',T',H')
 | [],k,fresh,prev,T,H,k',fresh',prev',T',H',h=>by cases h;rfl
 |o::l,k,fresh,prev,T,H,k',fresh',prev',T',H',h=>by
  simp only[dsq,ds0]at h;simp only[LU];cases hw:aU ops T N o with
  |none=>rw[hw]at h;simp only[DE,vD]at h;cases h
  |some b=>
   rw[hw]at h;cases b
   ·exact KO bm l _ _ _ _ _ h
   ·simp only[DE]at h;cases ha:eU P false fresh T H o.op with
    |none=>rw[ha]at h;simp only[ds2,vD]at h;cases h
    |some r=>
     rw[ha]at h;simp only[ds2]at h;cases h1:iA fresh r.2 H with
     |false=>rw[h1]at h;simp only[QP,vD]at h;cases h
     |true=>
      cases h2:nM (bm.getD k 0) prev (mU T o.op++dU r.2) (dU r.2)with
      |false=>rw[h1,h2]at h;simp only[QP,vD]at h;cases h
      |true=>
       rw[h1,h2]at h;simp only[QP]at h;simp only[aSy,h1,h2,and_self,if_true];exact KO bm l _ _ _ _ _ h
abbrev OX:=Nat×Nat×fD×aD×(Nat->Bool)×aC
end
section
variable{P:Program}{N nb:Nat}{ops:Array Oper}{Q:dG}
theorem eT(n:Nat){l:List Oper}{T T':aD}{H H':aC}(hs:AE P N ops.toList (l.take n) (some (T,H))=some (T',H'))(hok:(l.take n).all (λo=>cK N o.op)=true)(h:bH P N nb ops Q (l.drop n) T' H'):bH P N nb ops Q l T H:=UK n (ET .. ▸hs) hok h
theorem nO{l:List Oper}{T T':aD}{H H':aC}(hs:AE P N ops.toList l (some (T,H))=some (T',H'))(hok:l.all (λo=>cK N o.op)=true)(h:Q .normal T' H'):bH P N nb ops Q l T H:=ZN (ET .. ▸hs) hok h
theorem eE{id:Nat}{T T':aD}{H H':aC}(hs:AE P N ops.toList ops.toList (some (T,H))=some (T',H'))(hok:ops.toList.all (λo=>cK N o.op)=true)(h:Q .normal T' H'):eA P N nb (.region id ops false) Q T H:=EH (ET .. ▸hs) hok h
theorem FB(n:Nat){l:List Oper}{T T':aD}{G G':Nat->Bool}{H H':aC}(hs:NO P N ops.toList (l.take n) (some (T,G,H))=some (T',G',H'))(hok:(l.take n).all (λo=>cK N o.op)=true)
  (h:bH P N nb ops Q (l.drop n) (eZ (.tup []) T' G') H'):bH P N nb ops Q l (eZ (.tup []) T G) H:=OT n (KI .. ▸hs) hok h
theorem aB6{l:List Oper}{T T' F:aD}{G G':Nat->Bool}{H H':aC}(hs:NO P N ops.toList l (some (T,G,H))=some (T',G',H'))(hok:l.all (λo=>cK N o.op)=true)(hf:fK T' G' F)(h:Q .normal F H'):
  bH P N nb ops Q l (eZ (.tup []) T G) H:=ID (KI .. ▸hs) hok hf h
theorem vG{id:Nat}{T T' F:aD}{G':Nat->Bool}{H H':aC}(hs:NO P N ops.toList ops.toList (some (T,DS,H))=some (T',G',H'))(hok:ops.toList.all (λo=>cK N o.op)=true)(hf:fK T' G' F)(h:Q .normal F H'):eA P N nb (.region id ops false) Q T H:=VQ (KI .. ▸hs) hok hf h
theorem tF(n:Nat){l:List Oper}{k k' fresh:Nat}{prev prev':fD}{T T':aD}{H H':aC}{bm:List Nat}{fresh':Nat}(hbm:cL ops.toList=bm)(hs:dsq P N ops.toList bm (l.take n) (some (k,fresh,prev,T,H))=some (k',fresh',prev',T',H'))
  (hok:(l.take n).all (λo=>cK N o.op)=true) (hn:(l.take n).length=n) (h:iI P N ops Q (k+n) (l.drop n) prev' T' H'):iI P N ops Q k l prev T H:=VW n hbm (KO _ _ _ _ _ _ _ _ _ _ hs) hok hn h
theorem kU{l:List Oper}{k k' fresh:Nat}{prev prev':fD}{T T':aD}{H H':aC}{bm:List Nat}{fresh':Nat}(hbm:cL ops.toList=bm)(hs:dsq P N ops.toList bm l (some (k,fresh,prev,T,H))=some (k',fresh',prev',T',H'))
  (hok:l.all (λo=>cK N o.op)=true) (h:Q .normal T' H'):iI P N ops Q k l prev T H:=XO hbm (KO _ _ _ _ _ _ _ _ _ _ hs) hok h
end
section
variable{P:Program}{N nb:Nat}{Q:dG}
end
theorem aN.retok{P:Program}{f:FuncId}{es:List PV}(sz:Nat){args:List PV}{H:aC}{R:PV->aC->Prop}(h:aN P f (.slice es (.tok H.length)::args) (H++ [.buf es.length sz]) R)(he:es= []:=by rfl):aN P f (.slice es .full::args) H R:=by
 intro E vargs ho hH hr;subst hH;have hun:E.ext.H[E.H.length]? =some .unborn:=by simp[aE.ext]
 have ho2:=aE.Ok.retok (n:=es.length) (sz:=sz) ho.ext hun;have hle:=E.ext_le.trans (aE.retok_le (n:=es.length) (sz:=sz) hun);have hH2:(E.ext.retok E.H.length es.length sz).H=E.H++ [.buf es.length sz]:=by
  simp only[aE.retok,aE.ext];rw[aTw _ _ (aSl _)];simp
 refine(h (E.ext.retok E.H.length es.length sz) vargs ho2 hH2 ⟨hr.1,λi hi=> ?_⟩).mono λe w' ⟨E',v,r,h1,h2,h3,h4⟩=>⟨E',v,r,h1,h2,hle.trans h3,h4⟩;have h0:=(hr.2 i hi).mono hle.view;cases i with
 |zero=>
  simp only[aSj]at h0⊢;refine aL.retok he h0 ⟨.buf es.length sz,by rw[hH2];simp,z6⟩ (λt e=> ?_);simp only[aE.view,hH2,aSw (aSl _),Nat.sub_self,aTo,Option.some.injEq]at e;subst e;exact aSl _
 |succ i=>simpa using h0
section
variable{P:Program}{N nb:Nat}{Q:dG}
end
theorem DA{P:Program}{N nb:Nat}{ops:Array Oper}{Q:Exit->aD->aC->Prop}{o:Oper}{l:List Oper}{T:aD}{G:Nat->Bool}{H:aC}{r:PV}(hc:dV ops.toList T G N o=some false)
  (h:bH P N nb ops Q l (eZ (.tup []) (bU T o.dst r) (vV G o.dst false)) H):bH P N nb ops Q (o::l) (eZ (.tup []) T G) H:=by
 rw[gQ]at h;exact xB (λE a ht=>vN ht hc) h
theorem LI{i:TI}{fresh:Nat}{H:aC}{ys:List PV}{tl:jM}(hne:ys≠ [])(hb:ys.length*i.bytes<=2^47)(hm:ys.length<=maxLen)
  (hys:∀e∈ys,e.cells.length=i.sz/\e.cells.all PV.isCell=true) (hs:0<i.sz):
  dQ i fresh H (.slice [] .full) (.slice ys tl)=some (.slice ys (.tok fresh),some (fresh, .buf ys.length i.sz)):=by
 unfold dQ;simp only[if_neg hne,aT5,aTh];rw[if_pos ⟨hb,hm,z6,hys,hs⟩];rfl
section
variable{P:Program}{N nb:Nat}{Q:dG}
theorem XA{ops:Array Oper}{o:Oper}{l:List Oper}{T:aD}{H:aC}(mt:Bool)(id:Nat){v:PV}{e:qD}{H':aC}(hid:H[id]? =some .unborn)(hw:aU ops.toList T N o=some true)(hok:cK N o.op=true)
  (hv:eU P mt id T H o.op=some (v,e)) (hH':e.app H=H') (h:bH P N nb ops Q l (bU T o.dst v) H'):bH P N nb ops Q (o::l) T H:=by
 refine fW hw (λE a ho hH ht=> ?_) h;subst hH;obtain⟨E',val,h1,h2,h3,h4,h5⟩:=sN ho ht hok hv (λob he=>hid);exact⟨E',val,h1,h2,h3,h4.trans hH',h5⟩
theorem OV{c:Code}{T:aD}{H:aC}(id t sz:Nat){es:List PV}(hid:H[id]? =some .unborn)(ht:T t= .slice es .full)(h:eA P N nb c Q (oF T t (.slice es (.tok id))) (H.set id (.buf es.length sz)))(he:es= []:=by rfl):eA P N nb c Q T H:=by
 intro E a ho hH hr;subst hH;have ho2:=aE.Ok.retok (n:=es.length) (sz:=sz) ho hid;have hle:=aE.retok_le (n:=es.length) (sz:=sz) hid;have hH2:(E.retok id es.length sz).H=E.H.set id (.buf es.length sz):=rfl;have hlen:=lG hid;have:=h (E.retok id es.length sz) a ho2 hH2 ⟨hr.size,hr.defers,λi hi=> ?_⟩
 ·exact wp_mono this λe a w hl=>eP (hle.leN nb) (λ_ _ _ q=>q) hl
 ·have h0:=(hr.rel i hi).mono hle.view;unfold oF
  split
  ·rename_i e;subst e;rw[ht]at h0;refine aL.retok he h0 ⟨.buf es.length sz,by rw[hH2];simp[hlen],z6⟩ (λt e=> ?_);simp only[aE.view,hH2,aSz hlen,Option.some.injEq]at e;subst e;exact aSl _
  ·exact h0
end
theorem aEd{P:Program}{N:Nat}{Q:dG}{ops:Array Oper}{bm:List Nat}{k:Nat}{o:Oper}{l:List Oper}{prev:fD}{T:aD}{H:aC}{f:FuncId}{args:List PV}{r:PV}(rd:List Nat)(id:Nat)(ob:AObj)(hbm:cL ops.toList=bm)(hcall:eO T o.op=some (f,args))(hw:aU ops.toList T N o=some true)(hok:cK N o.op=true)
  (hgo:aP P f=true) (hc:∀H':aC,(∀id∈rd,H'[id]? =H[id]?)->aN P f args H' λr' H''=>r'=r/\H''=H'.set id ob) (hid:id∈rd)
  (hap:nM (bm.getD k 0) prev rd [id]=true) (h:iI P N ops Q (k+1) l (prev++ [(k,rd,[id])]) (bU T o.dst r) (H.set id ob)):iI P N ops Q k (o::l) prev T H:=by
 obtain⟨fo,xs,ts,pf,pc,h1,h2,h3⟩:=iZ hcall;exact rU (eff:= [(id,ob)]) (rd:=rd) h1 hw hok h2 hgo h3 (by simp[hid]) (λH' hH _=>hc H' hH) (lM (eff:= [(id,ob)]) (by rw[hbm];exact hap)) h
def IP(prev:fD):Prop:=∀p∈prev,p.2.2= []
theorem DC{prev:fD}(h:IP prev)(m:Nat)(rd:List Nat):nM m prev rd []=true:=by
 unfold nM;rw[aTr];intro p hp;rw[h p hp];simp
theorem IP.app{prev:fD}(h:IP prev)(k:Nat)(rd:List Nat):IP (prev++ [(k,rd,[])]):=by
 intro p hp;rcases aTs.1 hp with hp|hp
 ·exact h p hp
 ·rw[aT2]at hp;rw[hp]
section
variable{P:Program}{N nb:Nat}{ops:Array Oper}{Q:dG}
def DP(P:Program)(N:Nat)(ops:Array Oper)(Q:dG)(k:Nat)(l:List Oper)(T:aD)(H:aC):Prop:=∀prev,IP prev->iI P N ops (λe T1 H1=>∃T2,(∀i,T2 i= .junk\/T2 i=T1 i)/\Q e T2 H1) k l prev T H
theorem dA{id:Nat}{T:aD}{H:aC}(hok:mP P ops.toList=true)(h:DP P N ops Q 0 ops.toList (eZ (.tup []) T DS) H):eA P N nb (.region id ops true) Q T H:=by
 refine HX 0 hok ?_;have:=h [] (by intro p hp;cases hp);simp only[List.replicate_zero,aT4];exact this
def YU(o:Oper)(T:aD)(G:Nat->Bool)(H:aC)(c:Bool):Option (PV×qD)->Option (aD×(Nat->Bool)×aC)
 |some (v,none)=>some (bU T o.dst v,vV G o.dst c,H)
 |_=>none
def ps1(P:Program)(o:Oper)(T:aD)(G:Nat->Bool)(H:aC):Option Bool->Option (aD×(Nat->Bool)×aC)
 |some c=>YU o T G H c (wG P H.length c T G H o.op)
 |none=>none
def ps0(P:Program)(N:Nat)(ops:List Oper)(o:Oper):Option (aD×(Nat->Bool)×aC)->Option (aD×(Nat->Bool)×aC)
 |some (T,G,H)=>ps1 P o T G H (dV ops T G N o)
 |none=>none
def MH(P:Program)(N:Nat)(ops:List Oper):List Oper->Option (aD×(Nat->Bool)×aC)->Option (aD×(Nat->Bool)×aC)
 | [],s=>s
 |o::l,s=>MH P N ops l (ps0 P N ops o s)
theorem pU:∀l,MH P N ops.toList l none=none
 | []=>rfl
 |o::l=>pU l
theorem QL:∀(l l2:List Oper) (k:Nat) (T:aD) (G:Nat->Bool) (H:aC) {T':aD} {G':Nat->Bool} {H':aC},l.all (λo=>cK N o.op)=true->
  MH P N ops.toList l (some (T,G,H))=some (T',G',H')->(DP P N ops Q (k+l.length) l2 (eZ (.tup []) T' G') H')->DP P N ops Q k (l++l2) (eZ (.tup []) T G) H
 | [],l2,k,T,G,H,T',G',H',_,hs,h=>by cases hs;exact h
 |o::l,l2,k,T,G,H,T',G',H',hok,hs,h=>by
  simp only[aSd,aSe]at hok;simp only[MH,ps0]at hs;cases hw:dV ops.toList T G N o with
  |none=>rw[hw]at hs;simp only[ps1,pU]at hs;cases hs
  |some c=>
   rw[hw]at hs;simp only[ps1]at hs;cases hg:wG P H.length c T G H o.op with
   |none=>rw[hg]at hs;simp only[YU,pU]at hs;cases hs
   |some r=>
    rw[hg]at hs;obtain⟨v,e⟩:=r;cases e with
    |some e=>simp only[YU,pU]at hs;cases hs
    |none=>
     simp only[YU]at hs;intro prev hp;refine xD (fresh:=H.length) rfl hok.1 hw hg rfl (DC hp _ _) ?_;have:=QL l l2 (k+1) _ _ _ hok.2 hs (by rw[show k+1+l.length=k+(o::l).length by simp only[aS2];omega];exact h);exact this _ (hp.app _ _)
theorem vQ(n:Nat){l:List Oper}{k:Nat}{T T':aD}{G G':Nat->Bool}{H H':aC}(hs:MH P N ops.toList (l.take n) (some (T,G,H))=some (T',G',H'))
  (hok:(l.take n).all (λo=>cK N o.op)=true) (h:DP P N ops Q (k+(l.take n).length) (l.drop n) (eZ (.tup []) T' G') H'):DP P N ops Q k l (eZ (.tup []) T G) H:=by
 have:=QL (l.take n) (l.drop n) k T G H hok hs h
 rwa [aT3]at this
theorem xN{l:List Oper}{k:Nat}{T T' F:aD}{G G':Nat->Bool}{H H':aC}(hs:MH P N ops.toList l (some (T,G,H))=some (T',G',H'))
  (hok:l.all (λo=>cK N o.op)=true) (hf:fK T' G' F) (h:Q .normal F H'):DP P N ops Q k l (eZ (.tup []) T G) H:=by
 have:=QL l [] k T G H hok hs (Q:=Q) (λprev _=>xV ⟨F,λi=> ?_,h⟩)
 ·rwa [aT4]at this
 ·rcases hf.spec i with e| ⟨e1,e2⟩
  ·exact .inl e
  ·exact .inr (by simp only[eZ,e1,if_true];exact e2)
theorem vX{k:Nat}{o:Oper}{l:List Oper}{T:aD}{G:Nat->Bool}{H:aC}{c:Bool}{f:FuncId}{args:List PV}{r:PV}(hcall:eO T o.op=some (f,args))(hc:dV ops.toList T G N o=some c)
  (hg:o.op.operands.toList.all (zH c G)=true) (hok:cK N o.op=true) (hgo:aP P f=true) (hp:c=true->aN P f args H λr' H''=>r'=r/\H''=H)
  (h:DP P N ops Q (k+1) l (eZ (.tup []) (bU T o.dst r) (vV G o.dst c)) H):DP P N ops Q k (o::l) (eZ (.tup []) T G) H:=by
 intro prev hn;cases c
 ·rw[gQ]at h;exact sT [] (λp hp=>.inr ⟨by rw[hn p hp];simp,z6⟩) hc (h _ (hn.app _ _))
 ·rw[gG]at h;have hcall':=zQ (u:=.tup []) hcall hg;obtain⟨fo,xs,ts,pf,pc,h1,h2,h3⟩:=iZ hcall';refine rU (eff:= []) (rd:=List.range H.length) h1 ((iO hc).1 rfl _) hok h2 hgo h3 z6 (λH' hH hl=> ?_) (λp hp=>.inr ⟨by rw[hn p hp];simp,z6⟩) (h _ (hn.app _ _));have he:H'=H:=List.ext_getElem? λi=>by
   by_cases hi:i<H.length
   ·exact hH i (aT0.2 hi)
   ·rw[aSx z8,aSx z8]
  subst he;exact hp rfl
end
def TS:Op->Bool
 | .call c=>match c.callee with
  | .builtin .append=>false
  |_=>true
 | .store .. =>false
 | .mapUpdate .. =>false
 |_=>true
theorem aDs{P:Program}{fresh:Nat}{c:Bool}{T:aD}{G:Nat->Bool}{H:aC}{o:Op}{v:PV}{e:qD}(h:wG P fresh c T G H o=some (v,e))(hn:TS o=true):∀id∈mU T o,∃ob,H[id]? =some ob/\ob≠ .unborn:=by
 have hb:∀(x:Option (PV×qD)) (f:PV×qD->Option (PV×qD)) (q:Prop) [Decidable q],(if q then x.bind f else none)=some (v,e)->∃r,x=some r:=by
  intro x f q _ h
  split at h
  ·obtain⟨r,hr,_⟩:=oB h;exact⟨r,hr⟩
  ·cases h
 cases o with
 |load t x=>
  simp only[wG]at h;obtain⟨r,hr⟩:=hb _ _ _ h;intro id hid;simp only[mU]at hid
  split at hid
  ·rename_i id' off hx;simp only[aT2]at hid;subst hid;simp only[eU]at hr;obtain⟨i,hi,hr⟩:=oB hr;rw[hx]at hr;simp only[iQ]at hr;cases hq:H[id]? with
   |none=>rw[hq]at hr;simp at hr
   |some ob=>
    cases ob with
    |unborn=>rw[hq]at hr;simp at hr
    |_=>exact⟨_,rfl,nofun⟩
  ·cases hid
 |lookup t x k ok=>
  simp only[wG]at h;obtain⟨r,hr⟩:=hb _ _ _ h;intro id hid;simp only[mU]at hid
  split at hid
  ·rename_i id' hx;simp only[aT2]at hid;subst hid;simp only[eU]at hr;rw[hx]at hr;obtain⟨q,hr,_⟩:=oB hr;unfold lC at hr
   split at hr
   ·rename_i a b n hq hk;cases hq
    split at hr
    ·rename_i hid;exact⟨_,hid,nofun⟩
    ·cases hr
   ·cases hr
  ·cases hid
 |store t x y=>cases hn
 |mapUpdate t x y z=>cases hn
 |call cl=>
  intro id hid;simp only[mU]at hid;simp only[TS]at hn
  split at hid
  ·rename_i hq;rw[hq]at hn;cases hn
  ·cases hid
 |_=>intro id hid;simp[mU]at hid
def P1(n0 k0:Nat)(prev:fD):Prop:=∀p∈prev,p.1<k0/\p.2.2= []/\∀id∈p.2.1,id<n0
theorem P1.app{n0 k:Nat}{prev:fD}(h:P1 n0 k prev){rd:List Nat}(hr:∀id∈rd,id<n0):P1 n0 (k+1) (prev++ [(k,rd,[])]):=by
 intro p hp;rcases aTs.1 hp with hp|hp
 ·obtain⟨h1,h2⟩:=h p hp;exact⟨z8,h2⟩
 ·rw[aT2]at hp;subst hp;exact⟨aT9 _,rfl,hr⟩
theorem P1.noeff{n0 k:Nat}{prev:fD}(h:P1 n0 k prev):IP prev:=λp hp=>(h p hp).2.1
def OQ(n0 k0 m:Nat)(eids:List Nat):Bool:=(eids.all λid=>decide (n0<=id))||(m%2^k0==2^k0-1)
theorem SZ{n0 k0 m:Nat}{prev:fD}{rd eids:List Nat}(h:P1 n0 k0 prev)(hm:OQ n0 k0 m eids=true):nM m prev rd eids=true:=by
 unfold nM;rw[aTr];intro p hp;obtain⟨h1,h2,h3⟩:=h p hp;unfold OQ at hm;rw[aTy]at hm⊢;rcases hm with hm|hm
 ·right;rw[h2];simp only[List.all_nil,Bool.true_and];rw[aTr]at hm⊢;intro id hid;have:=of_decide_eq_true (hm id hid);cases hc:p.2.1.contains id with
  |false=>rfl
  |true=>
   have:=h3 id (by simpa using hc);omega
 ·left;have e2:(m/2^p.1%2==1)=m.testBit p.1:=by rw[Nat.testBit_eq_decide_div_mod_eq];rfl
  rw[e2];have hm:m%2^k0=2^k0-1:=by simpa using hm
  have:=Nat.testBit_mod_two_pow m k0 p.1;rw[hm,Nat.testBit_two_pow_sub_one]at this;simp only[h1,decide_true,Bool.true_and]at this;exact this.symm
theorem MD{m:Nat}{p1 p2:fD}{rd eids:List Nat}(h1:nM m p1 rd eids=true)(h2:nM m p2 rd eids=true):nM m (p1++p2) rd eids=true:=by
 unfold nM at h1 h2⊢;rw[List.all_append,h1,h2];rfl
section
variable{P:Program}{N nb:Nat}{ops:Array Oper}{Q:dG}
def X1(P:Program)(N:Nat)(ops:Array Oper)(Q:dG)(n0 k:Nat)(l:List Oper)(T:aD)(H:aC):Prop:=∀prev,P1 n0 k prev->iI P N ops (λe T1 H1=>∃T2,(∀i,T2 i= .junk\/T2 i=T1 i)/\Q e T2 H1) k l prev T H
theorem aMo{H:aC}{m id:Nat}{ob:AObj}(h:(H++aS6 m AObj.unborn)[id]? =some ob)(hu:ob≠ .unborn):id<H.length:=by
 rcases aSk id H.length with hl|hl
 ·exact hl
 ·rw[aSw hl,List.getElem?_replicate]at h
  split at h
  ·cases h;exact absurd rfl hu
  ·cases h
theorem uX{id:Nat}{T:aD}{H:aC}(m:Nat){n0:Nat}(hn:H.length=n0)(hok:mP P ops.toList=true)(h:X1 P N ops Q n0 0 ops.toList (eZ (.tup []) T DS) (H++aS6 m .unborn)):eA P N nb (.region id ops true) Q T H:=by
 refine HX m hok ?_;exact h [] (by intro p hp;cases hp)
theorem aAm{H:aC}{n0:Nat}(hu:∀id ob,H[id]? =some ob->ob≠ .unborn->id<n0):∀(l l2:List Oper) (k:Nat) (T:aD) (G:Nat->Bool) {T':aD} {G':Nat->Bool} {H':aC},l.all (λo=>cK N o.op)=true->l.all (λo=>TS o.op)=true->
  MH P N ops.toList l (some (T,G,H))=some (T',G',H')->(H'=H->X1 P N ops Q n0 (k+l.length) l2 (eZ (.tup []) T' G') H)->X1 P N ops Q n0 k (l++l2) (eZ (.tup []) T G) H
 | [],l2,k,T,G,T',G',H',_,_,hs,h=>by cases hs;exact h rfl
 |o::l,l2,k,T,G,T',G',H',hok,hna,hs,h=>by
  simp only[aSd,aSe]at hok hna;simp only[MH,ps0]at hs;cases hw:dV ops.toList T G N o with
  |none=>rw[hw]at hs;simp only[ps1,pU]at hs;cases hs
  |some c=>
   rw[hw]at hs;simp only[ps1]at hs;cases hg:wG P H.length c T G H o.op with
   |none=>rw[hg]at hs;simp only[YU,pU]at hs;cases hs
   |some r=>
    rw[hg]at hs;obtain⟨v,e⟩:=r;cases e with
    |some e=>simp only[YU,pU]at hs;cases hs
    |none=>
     simp only[YU]at hs;intro prev hp;refine xD (fresh:=H.length) rfl hok.1 hw hg rfl (DC hp.noeff _ _) ?_;have:=aAm hu l l2 (k+1) _ _ hok.2 hna.2 hs (λe=>by rw[show k+1+l.length=k+(o::l).length by simp only[aS2];omega];exact h e);refine this _ (hp.app λid hid=> ?_);simp only[dU,aT4]at hid;obtain⟨cs,hcs,hne⟩:=aDs hg hna.1 id hid;exact hu id cs hcs hne
theorem rC(n:Nat){l:List Oper}{n0 k m:Nat}{T T':aD}{G G':Nat->Bool}{B H':aC}(hl:B.length=n0)(hs:MH P N ops.toList (l.take n) (some (T,G,B++aS6 m .unborn))=some (T',G',H'))
  (hok:(l.take n).all (λo=>cK N o.op)=true) (hna:(l.take n).all (λo=>TS o.op)=true) (hn:(l.take n).length=n) (h:X1 P N ops Q n0 (k+n) (l.drop n) (eZ (.tup []) T' G') (B++aS6 m .unborn)):X1 P N ops Q n0 k l (eZ (.tup []) T G) (B++aS6 m .unborn):=by
 have:=aAm (λid cs h hu=>hl▸aMo h hu) (l.take n) (l.drop n) k T G hok hna hs (λ_=>by rw[hn];exact h)
 rwa [aT3]at this
theorem aDo{n0 k m:Nat}{o:Oper}{l:List Oper}{T:aD}{G:Nat->Bool}{B:aC}{c:Bool}{f:FuncId}{args:List PV}{r:PV}(hl:B.length=n0)(hcall:eO T o.op=some (f,args))(hc:dV ops.toList T G N o=some c)
  (hg:o.op.operands.toList.all (zH c G)=true) (hok:cK N o.op=true) (hgo:aP P f=true) (hp:c=true->∀L,aN P f args (B++L) λr' H''=>r'=r/\H''=B++L)
  (h:X1 P N ops Q n0 (k+1) l (eZ (.tup []) (bU T o.dst r) (vV G o.dst c)) (B++aS6 m .unborn)):X1 P N ops Q n0 k (o::l) (eZ (.tup []) T G) (B++aS6 m .unborn):=by
 intro prev hn;cases c
 ·rw[gQ]at h;exact sT [] (λp hp=>.inr ⟨by rw[hn.noeff p hp];simp,z6⟩) hc (h _ (hn.app z6))
 ·rw[gG]at h;have hcall':=zQ (u:=.tup []) hcall hg;obtain⟨fo,xs,ts,pf,pc,h1,h2,h3⟩:=iZ hcall';refine rU (eff:= []) (rd:=List.range n0) h1 ((iO hc).1 rfl _) hok h2 hgo h3 z6 (λH' hH hlen=> ?_) (λp hp=>.inr ⟨by rw[hn.noeff p hp];simp,z6⟩) (h _ (hn.app (λid hid=>aT0.1 hid)));obtain⟨L,rfl⟩:∃L,H'=B++L:=by
   refine⟨H'.drop B.length, ?_⟩;have hle:B.length<=H'.length:=by rw[hlen];simp
   refine(aT3 B.length H').symm.trans ?_;congr 1;refine List.ext_getElem? λi=> ?_
   by_cases hi:i<B.length
   ·rw[List.getElem?_take_of_lt hi,hH i (aT0.2 z8),aSv hi]
   ·rw[aSx (by simp;omega),aSx z8]
  exact hp rfl L
def X2(P:Program)(N:Nat)(ops:Array Oper)(Q:dG)(n0 k0 k:Nat)(l:List Oper)(prev2:fD)(T:aD)(H:aC):Prop:=∀prev1,P1 n0 k0 prev1->iI P N ops (λe T1 H1=>∃T2,(∀i,T2 i= .junk\/T2 i=T1 i)/\Q e T2 H1) k l (prev1++prev2) T H
theorem BM{n0 k:Nat}{l:List Oper}{T:aD}{H H1:aC}(hH:H=H1)(h:X2 P N ops Q n0 k k l [] T H1):X1 P N ops Q n0 k l T H:=by
 subst hH;intro prev hp;have:=h prev hp
 rwa [aT4]at this
def xd4(o:Oper)(k fresh:Nat)(prev:fD)(T:aD)(G:Nat->Bool)(H:aC)(c:Bool)(r:PV×qD)(rd eids:List Nat):Bool->Bool->Bool->Option OX
 |true,true,true=>some (k+1,iJ fresh r.2,prev++ [(k,rd,eids)],bU T o.dst r.1,vV G o.dst c,mG r.2 H)
 |_,_,_=>none
def xd2(n0 k0:Nat)(bm:List Nat)(o:Oper)(k fresh:Nat)(prev:fD)(T:aD)(G:Nat->Bool)(H:aC)(c:Bool):Option (PV×qD)->Option OX
 |some r=>xd4 o k fresh prev T G H c r (mU T o.op++dU r.2) (dU r.2) (iA fresh r.2 H) (nM (bm.getD k 0) prev (mU T o.op++dU r.2) (dU r.2)) (OQ n0 k0 (bm.getD k 0) (dU r.2))
 |none=>none
def xd1(P:Program)(n0 k0:Nat)(bm:List Nat)(o:Oper)(k fresh:Nat)(prev:fD)(T:aD)(G:Nat->Bool)(H:aC):Option Bool->Option OX
 |some c=>xd2 n0 k0 bm o k fresh prev T G H c (wG P fresh c T G H o.op)
 |none=>none
def xd0(P:Program)(N:Nat)(ops:List Oper)(n0 k0:Nat)(bm:List Nat)(o:Oper):Option OX->Option OX
 |some (k,fresh,prev,T,G,H)=>xd1 P n0 k0 bm o k fresh prev T G H (dV ops T G N o)
 |none=>none
def xq(P:Program)(N:Nat)(ops:List Oper)(n0 k0:Nat)(bm:List Nat):List Oper->Option OX->Option OX
 | [],s=>s
 |o::l,s=>xq P N ops n0 k0 bm l (xd0 P N ops n0 k0 bm o s)
theorem wB{n0 k0:Nat}{bm:List Nat}:∀l,xq P N ops.toList n0 k0 bm l none=none
 | []=>rfl
 |o::l=>wB l
theorem aBa{n0 k0:Nat}{bm:List Nat}(hbm:cL ops.toList=bm):∀(l l2:List Oper) (k fresh:Nat) (prev:fD) (T:aD) (G:Nat->Bool) (H:aC) {k' fresh':Nat} {prev':fD} {T':aD} {G':Nat->Bool} {H':aC},l.all (λo=>cK N o.op)=true->
  xq P N ops.toList n0 k0 bm l (some (k,fresh,prev,T,G,H))=some (k',fresh',prev',T',G',H')->X2 P N ops Q n0 k0 (k+l.length) l2 prev' (eZ (.tup []) T' G') H'->X2 P N ops Q n0 k0 k (l++l2) prev (eZ (.tup []) T G) H
 | [],l2,k,fresh,prev,T,G,H,k',fresh',prev',T',G',H',_,hs,h=>by cases hs;exact h
 |o::l,l2,k,fresh,prev,T,G,H,k',fresh',prev',T',G',H',hok,hs,h=>by
  simp only[aSd,aSe]at hok;simp only[xq,xd0]at hs;cases hw:dV ops.toList T G N o with
  |none=>rw[hw]at hs;simp only[xd1,wB]at hs;cases hs
  |some c=>
   rw[hw]at hs;simp only[xd1]at hs;cases hg:wG P fresh c T G H o.op with
   |none=>rw[hg]at hs;simp only[xd2,wB]at hs;cases hs
   |some r=>
    rw[hg]at hs;simp only[xd2]at hs;cases h1:iA fresh r.2 H with
    |false=>rw[h1]at hs;simp only[xd4,wB]at hs;cases hs
    |true=>
     cases h2:nM (bm.getD k 0) prev (mU T o.op++dU r.2) (dU r.2)with
     |false=>rw[h1,h2]at hs;simp only[xd4,wB]at hs;cases hs
     |true=>
      cases h3:OQ n0 k0 (bm.getD k 0) (dU r.2)with
      |false=>rw[h1,h2,h3]at hs;simp only[xd4,wB]at hs;cases hs
      |true=>
       rw[h1,h2,h3]at hs;simp only[xd4]at hs;intro prev1 hp;refine xD hbm hok.1 hw hg h1 (MD (SZ hp h3) h2) ?_;have:=aBa hbm l l2 (k+1) _ _ _ _ _ hok.2 hs (by rw[show k+1+l.length=k+(o::l).length by simp only[aS2];omega];exact h) prev1 hp
       rwa [<-aUa]at this
theorem uF{l:List Oper}{n0 k0 k k' fresh fresh':Nat}{bm:List Nat}{prev prev':fD}{T T' F:aD}{G G':Nat->Bool}{H H':aC}(hbm:cL ops.toList=bm)(hs:xq P N ops.toList n0 k0 bm l (some (k,fresh,prev,T,G,H))=some (k',fresh',prev',T',G',H'))
  (hok:l.all (λo=>cK N o.op)=true) (hf:fK T' G' F) (h:Q .normal F H'):X2 P N ops Q n0 k0 k l prev (eZ (.tup []) T G) H:=by
 have:=aBa hbm l [] k fresh prev T G H hok hs (Q:=Q) (λprev1 _=>xV ⟨F,λi=> ?_,h⟩)
 ·rwa [aT4]at this
 ·rcases hf.spec i with e| ⟨e1,e2⟩
  ·exact .inl e
  ·exact .inr (by simp only[eZ,e1,if_true];exact e2)
theorem aGt{n0 k0 k:Nat}{bm:List Nat}{o:Oper}{l:List Oper}{prev:fD}{T:aD}{G:Nat->Bool}{H H1:aC}{f:FuncId}{args:List PV}{r:PV}(rd:List Nat)(id:Nat)(ob:AObj)(hbm:cL ops.toList=bm)(hcall:eO T o.op=some (f,args))(hc:dV ops.toList T G N o=some true)
  (hg:o.op.operands.toList.all (zH true G)=true) (hok:cK N o.op=true) (hgo:aP P f=true) (hp:∀H':aC,(∀id∈rd,H'[id]? =H[id]?)->H'.length=H.length->aN P f args H' λr' H''=>r'=r/\H''=H'.set id ob) (hid:id∈rd)
  (hap:nM (bm.getD k 0) prev rd [id]=true) (hx:OQ n0 k0 (bm.getD k 0) [id]=true) (hH:H.set id ob=H1) (h:X2 P N ops Q n0 k0 (k+1) l (prev++ [(k,rd,[id])]) (eZ (.tup []) (bU T o.dst r) (vV G o.dst true)) H1):X2 P N ops Q n0 k0 k (o::l) prev (eZ (.tup []) T G) H:=by
 subst hH;intro prev1 hn;rw[gG]at h;have hcall':=zQ (u:=.tup []) hcall hg;obtain⟨fo,xs,ts,pf,pc,h1,h2,h3⟩:=iZ hcall';have:=h prev1 hn;rw[<-aUa]at this;refine rU (eff:= [(id,ob)]) (rd:=rd) h1 ((iO hc).1 rfl _) hok h2 hgo h3 (by simp[hid]) (λH' hH hl=>hp H' hH hl) ?_ this;exact lM (eff:= [(id,ob)]) (by rw[hbm];exact MD (SZ hn hx) hap)
end
theorem CK(m:Nat)(rd eids:List Nat):nM m [] rd eids=true:=by unfold nM;exact List.all_nil
theorem yL(m i:Nat)(r e:List Nat)(prev:fD)(rd eids:List Nat):nM m ((i,r,e)::prev) rd eids=(((m/2^i%2==1)||((e.all λid=> !rd.contains id)&&eids.all λid=> !r.contains id))&&nM m prev rd eids):=by
 unfold nM;rw[aSd]
theorem jA:type_of%(aI @AE.eq_1 (aI @AE.eq_2 (aI @as0.eq_1 (aI @as0.eq_2 (aI @as1.eq_1 (aI @as1.eq_2 (aI @as1.eq_3 (aI @as2.eq_1 (aI @as2.eq_2 (@aU.eq_1)))))))))):=(aI @AE.eq_1 (aI @AE.eq_2 (aI @as0.eq_1 (aI @as0.eq_2 (aI @as1.eq_1 (aI @as1.eq_2 (aI @as1.eq_3 (aI @as2.eq_1 (aI @as2.eq_2 (@aU.eq_1))))))))))
theorem jG:type_of%(aI @NO.eq_1 (aI @NO.eq_2 (aI @gs0.eq_1 (aI @gs0.eq_2 (aI @OJ.eq_1 (aI @OJ.eq_2 (aI @PE.eq_1 (aI @PE.eq_2 (aI @dV.eq_1 (aI @wG.eq_1 (aI @wG.eq_2 (aI @Op.operands.eq_1 (aI @Op.operands.eq_2 (aI @Op.operands.eq_3 (aI @Op.operands.eq_4 (aI @Op.operands.eq_5 (aI @Op.operands.eq_6 (aI @Op.operands.eq_7 (aI @Op.operands.eq_8 (aI @Op.operands.eq_9 (aI @Op.operands.eq_10 (aI @Op.operands.eq_11 (aI @Op.operands.eq_12 (aI @Op.operands.eq_13 (aI @Op.operands.eq_14 (aI @Op.operands.eq_15 (aI @Op.operands.eq_16 (aI @Op.operands.eq_17 (aI @Op.operands.eq_18 (aI @Op.operands.eq_19 (aI @Op.operands.eq_20 (aI @Op.operands.eq_21 (aI @Op.operands.eq_22 (aI @Op.operands.eq_23 (aI @Op.operands.eq_24 (aI @Op.operands.eq_25 (aI @Op.operands.eq_26 (aI @Op.operands.eq_27 (aI @Op.operands.eq_28 (aI @Op.operands.eq_29 (aI @Op.operands.eq_30 (aI @Op.operands.eq_31 (aI @Op.operands.eq_32 (aI @Op.operands.eq_33 (aI @Op.operands.eq_34 (aI @Op.operands.eq_35 (aI @Op.operands.eq_36 (aI @Op.operands.eq_37 (aI @Op.operands.eq_38 (aI @Op.operands.eq_39 (aI @Op.operands.eq_40 (aI @Op.operands.eq_41 (aI @Op.operands.eq_42 (aI @Op.operands.eq_43 (aI @Call.operands.eq_1 (aI @SG (@Array.toList_append.{0}))))))))))))))))))))))))))))))))))))))))))))))))))))))))):=(aI @NO.eq_1 (aI @NO.eq_2 (aI @gs0.eq_1 (aI @gs0.eq_2 (aI @OJ.eq_1 (aI @OJ.eq_2 (aI @PE.eq_1 (aI @PE.eq_2 (aI @dV.eq_1 (aI @wG.eq_1 (aI @wG.eq_2 (aI @Op.operands.eq_1 (aI @Op.operands.eq_2 (aI @Op.operands.eq_3 (aI @Op.operands.eq_4 (aI @Op.operands.eq_5 (aI @Op.operands.eq_6 (aI @Op.operands.eq_7 (aI @Op.operands.eq_8 (aI @Op.operands.eq_9 (aI @Op.operands.eq_10 (aI @Op.operands.eq_11 (aI @Op.operands.eq_12 (aI @Op.operands.eq_13 (aI @Op.operands.eq_14 (aI @Op.operands.eq_15 (aI @Op.operands.eq_16 (aI @Op.operands.eq_17 (aI @Op.operands.eq_18 (aI @Op.operands.eq_19 (aI @Op.operands.eq_20 (aI @Op.operands.eq_21 (aI @Op.operands.eq_22 (aI @Op.operands.eq_23 (aI @Op.operands.eq_24 (aI @Op.operands.eq_25 (aI @Op.operands.eq_26 (aI @Op.operands.eq_27 (aI @Op.operands.eq_28 (aI @Op.operands.eq_29 (aI @Op.operands.eq_30 (aI @Op.operands.eq_31 (aI @Op.operands.eq_32 (aI @Op.operands.eq_33 (aI @Op.operands.eq_34 (aI @Op.operands.eq_35 (aI @Op.operands.eq_36 (aI @Op.operands.eq_37 (aI @Op.operands.eq_38 (aI @Op.operands.eq_39 (aI @Op.operands.eq_40 (aI @Op.operands.eq_41 (aI @Op.operands.eq_42 (aI @Op.operands.eq_43 (aI @Call.operands.eq_1 (aI @SG (@Array.toList_append.{0})))))))))))))))))))))))))))))))))))))))))))))))))))))))))
theorem jP:type_of%(aI @MH.eq_1 (aI @MH.eq_2 (aI @ps0.eq_1 (aI @ps0.eq_2 (aI @ps1.eq_1 (aI @ps1.eq_2 (aI @YU.eq_1 (aI @YU.eq_2 (aI @dV.eq_1 (aI @wG.eq_1 (aI @wG.eq_2 (aI @Op.operands.eq_1 (aI @Op.operands.eq_2 (aI @Op.operands.eq_3 (aI @Op.operands.eq_4 (aI @Op.operands.eq_5 (aI @Op.operands.eq_6 (aI @Op.operands.eq_7 (aI @Op.operands.eq_8 (aI @Op.operands.eq_9 (aI @Op.operands.eq_10 (aI @Op.operands.eq_11 (aI @Op.operands.eq_12 (aI @Op.operands.eq_13 (aI @Op.operands.eq_14 (aI @Op.operands.eq_15 (aI @Op.operands.eq_16 (aI @Op.operands.eq_17 (aI @Op.operands.eq_18 (aI @Op.operands.eq_19 (aI @Op.operands.eq_20 (aI @Op.operands.eq_21 (aI @Op.operands.eq_22 (aI @Op.operands.eq_23 (aI @Op.operands.eq_24 (aI @Op.operands.eq_25 (aI @Op.operands.eq_26 (aI @Op.operands.eq_27 (aI @Op.operands.eq_28 (aI @Op.operands.eq_29 (aI @Op.operands.eq_30 (aI @Op.operands.eq_31 (aI @Op.operands.eq_32 (aI @Op.operands.eq_33 (aI @Op.operands.eq_34 (aI @Op.operands.eq_35 (aI @Op.operands.eq_36 (aI @Op.operands.eq_37 (aI @Op.operands.eq_38 (aI @Op.operands.eq_39 (aI @Op.operands.eq_40 (aI @Op.operands.eq_41 (aI @Op.operands.eq_42 (aI @Op.operands.eq_43 (aI @Call.operands.eq_1 (aI @SG (@Array.toList_append.{0}))))))))))))))))))))))))))))))))))))))))))))))))))))))))):=(aI @MH.eq_1 (aI @MH.eq_2 (aI @ps0.eq_1 (aI @ps0.eq_2 (aI @ps1.eq_1 (aI @ps1.eq_2 (aI @YU.eq_1 (aI @YU.eq_2 (aI @dV.eq_1 (aI @wG.eq_1 (aI @wG.eq_2 (aI @Op.operands.eq_1 (aI @Op.operands.eq_2 (aI @Op.operands.eq_3 (aI @Op.operands.eq_4 (aI @Op.operands.eq_5 (aI @Op.operands.eq_6 (aI @Op.operands.eq_7 (aI @Op.operands.eq_8 (aI @Op.operands.eq_9 (aI @Op.operands.eq_10 (aI @Op.operands.eq_11 (aI @Op.operands.eq_12 (aI @Op.operands.eq_13 (aI @Op.operands.eq_14 (aI @Op.operands.eq_15 (aI @Op.operands.eq_16 (aI @Op.operands.eq_17 (aI @Op.operands.eq_18 (aI @Op.operands.eq_19 (aI @Op.operands.eq_20 (aI @Op.operands.eq_21 (aI @Op.operands.eq_22 (aI @Op.operands.eq_23 (aI @Op.operands.eq_24 (aI @Op.operands.eq_25 (aI @Op.operands.eq_26 (aI @Op.operands.eq_27 (aI @Op.operands.eq_28 (aI @Op.operands.eq_29 (aI @Op.operands.eq_30 (aI @Op.operands.eq_31 (aI @Op.operands.eq_32 (aI @Op.operands.eq_33 (aI @Op.operands.eq_34 (aI @Op.operands.eq_35 (aI @Op.operands.eq_36 (aI @Op.operands.eq_37 (aI @Op.operands.eq_38 (aI @Op.operands.eq_39 (aI @Op.operands.eq_40 (aI @Op.operands.eq_41 (aI @Op.operands.eq_42 (aI @Op.operands.eq_43 (aI @Call.operands.eq_1 (aI @SG (@Array.toList_append.{0})))))))))))))))))))))))))))))))))))))))))))))))))))))))))
theorem jD:type_of%(aI @dsq.eq_1 (aI @dsq.eq_2 (aI @ds0.eq_1 (aI @ds0.eq_2 (aI @DE.eq_1 (aI @DE.eq_2 (aI @DE.eq_3 (aI @ds2.eq_1 (aI @ds2.eq_2 (aI @QP.eq_1 (aI @QP.eq_2 (aI @aU.eq_1 (aI (aI @CK @yL) (aI @dU.eq_1 (aI @dU.eq_2 (aI @mG.eq_1 (aI @mG.eq_2 (aI @iJ.eq_1 (aI @iJ.eq_2 (aI @mU.eq_1 (aI @mU.eq_2 (aI @mU.eq_3 (aI @mU.eq_4 (aI @iA.eq_1 (aI @iA.eq_2 (aI @pW.eq_1 (aI @mU.eq_5 (@mU.eq_6)))))))))))))))))))))))))))):=(aI @dsq.eq_1 (aI @dsq.eq_2 (aI @ds0.eq_1 (aI @ds0.eq_2 (aI @DE.eq_1 (aI @DE.eq_2 (aI @DE.eq_3 (aI @ds2.eq_1 (aI @ds2.eq_2 (aI @QP.eq_1 (aI @QP.eq_2 (aI @aU.eq_1 (aI (aI @CK @yL) (aI @dU.eq_1 (aI @dU.eq_2 (aI @mG.eq_1 (aI @mG.eq_2 (aI @iJ.eq_1 (aI @iJ.eq_2 (aI @mU.eq_1 (aI @mU.eq_2 (aI @mU.eq_3 (aI @mU.eq_4 (aI @iA.eq_1 (aI @iA.eq_2 (aI @pW.eq_1 (aI @mU.eq_5 (@mU.eq_6))))))))))))))))))))))))))))
theorem jX:type_of%(aI @xq.eq_1 (aI @xq.eq_2 (aI @xd0.eq_1 (aI @xd0.eq_2 (aI @xd1.eq_1 (aI @xd1.eq_2 (aI @xd2.eq_1 (aI @xd2.eq_2 (aI @xd4.eq_1 (aI @xd4.eq_2 (aI @OQ.eq_1 (aI @dV.eq_1 (aI @wG.eq_1 (aI @wG.eq_2 (aI @Op.operands.eq_1 (aI @Op.operands.eq_2 (aI @Op.operands.eq_3 (aI @Op.operands.eq_4 (aI @Op.operands.eq_5 (aI @Op.operands.eq_6 (aI @Op.operands.eq_7 (aI @Op.operands.eq_8 (aI @Op.operands.eq_9 (aI @Op.operands.eq_10 (aI @Op.operands.eq_11 (aI @Op.operands.eq_12 (aI @Op.operands.eq_13 (aI @Op.operands.eq_14 (aI @Op.operands.eq_15 (aI @Op.operands.eq_16 (aI @Op.operands.eq_17 (aI @Op.operands.eq_18 (aI @Op.operands.eq_19 (aI @Op.operands.eq_20 (aI @Op.operands.eq_21 (aI @Op.operands.eq_22 (aI @Op.operands.eq_23 (aI @Op.operands.eq_24 (aI @Op.operands.eq_25 (aI @Op.operands.eq_26 (aI @Op.operands.eq_27 (aI @Op.operands.eq_28 (aI @Op.operands.eq_29 (aI @Op.operands.eq_30 (aI @Op.operands.eq_31 (aI @Op.operands.eq_32 (aI @Op.operands.eq_33 (aI @Op.operands.eq_34 (aI @Op.operands.eq_35 (aI @Op.operands.eq_36 (aI @Op.operands.eq_37 (aI @Op.operands.eq_38 (aI @Op.operands.eq_39 (aI @Op.operands.eq_40 (aI @Op.operands.eq_41 (aI @Op.operands.eq_42 (aI @Op.operands.eq_43 (aI @Call.operands.eq_1 (aI @SG (aI @Array.toList_append.{0} (aI (aI @CK @yL) (aI @dU.eq_1 (aI @dU.eq_2 (aI @mG.eq_1 (aI @mG.eq_2 (aI @iJ.eq_1 (aI @iJ.eq_2 (aI @mU.eq_1 (aI @mU.eq_2 (aI @mU.eq_3 (aI @mU.eq_4 (aI @iA.eq_1 (aI @iA.eq_2 (aI @pW.eq_1 (aI @aSl (aI @decide_true (aI @Bool.true_or (aI @Bool.or_true (aI @aSd.{0} (aI @List.all_nil.{0} (aI @Bool.and_true (aI @mU.eq_5 (@mU.eq_6))))))))))))))))))))))))))))))))))))))))))))))))))))))))))))))))))))))))))))))))))):=(aI @xq.eq_1 (aI @xq.eq_2 (aI @xd0.eq_1 (aI @xd0.eq_2 (aI @xd1.eq_1 (aI @xd1.eq_2 (aI @xd2.eq_1 (aI @xd2.eq_2 (aI @xd4.eq_1 (aI @xd4.eq_2 (aI @OQ.eq_1 (aI @dV.eq_1 (aI @wG.eq_1 (aI @wG.eq_2 (aI @Op.operands.eq_1 (aI @Op.operands.eq_2 (aI @Op.operands.eq_3 (aI @Op.operands.eq_4 (aI @Op.operands.eq_5 (aI @Op.operands.eq_6 (aI @Op.operands.eq_7 (aI @Op.operands.eq_8 (aI @Op.operands.eq_9 (aI @Op.operands.eq_10 (aI @Op.operands.eq_11 (aI @Op.operands.eq_12 (aI @Op.operands.eq_13 (aI @Op.operands.eq_14 (aI @Op.operands.eq_15 (aI @Op.operands.eq_16 (aI @Op.operands.eq_17 (aI @Op.operands.eq_18 (aI @Op.operands.eq_19 (aI @Op.operands.eq_20 (aI @Op.operands.eq_21 (aI @Op.operands.eq_22 (aI @Op.operands.eq_23 (aI @Op.operands.eq_24 (aI @Op.operands.eq_25 (aI @Op.operands.eq_26 (aI @Op.operands.eq_27 (aI @Op.operands.eq_28 (aI @Op.operands.eq_29 (aI @Op.operands.eq_30 (aI @Op.operands.eq_31 (aI @Op.operands.eq_32 (aI @Op.operands.eq_33 (aI @Op.operands.eq_34 (aI @Op.operands.eq_35 (aI @Op.operands.eq_36 (aI @Op.operands.eq_37 (aI @Op.operands.eq_38 (aI @Op.operands.eq_39 (aI @Op.operands.eq_40 (aI @Op.operands.eq_41 (aI @Op.operands.eq_42 (aI @Op.operands.eq_43 (aI @Call.operands.eq_1 (aI @SG (aI @Array.toList_append.{0} (aI (aI @CK @yL) (aI @dU.eq_1 (aI @dU.eq_2 (aI @mG.eq_1 (aI @mG.eq_2 (aI @iJ.eq_1 (aI @iJ.eq_2 (aI @mU.eq_1 (aI @mU.eq_2 (aI @mU.eq_3 (aI @mU.eq_4 (aI @iA.eq_1 (aI @iA.eq_2 (aI @pW.eq_1 (aI @aSl (aI @decide_true (aI @Bool.true_or (aI @Bool.or_true (aI @aSd.{0} (aI @List.all_nil.{0} (aI @Bool.and_true (aI @mU.eq_5 (@mU.eq_6)))))))))))))))))))))))))))))))))))))))))))))))))))))))))))))))))))))))))))))))))))
theorem jC:type_of%(aI @wY.eq_def (aI @eO.eq_1 (aI @eO.eq_2 (@aU.eq_1)))):=(aI @wY.eq_def (aI @eO.eq_1 (aI @eO.eq_2 (@aU.eq_1))))
theorem jE:type_of%(aI @wY.eq_def (aI @eO.eq_1 (aI @eO.eq_2 (aI @dV.eq_1 (aI @Op.operands.eq_1 (aI @Op.operands.eq_2 (aI @Op.operands.eq_3 (aI @Op.operands.eq_4 (aI @Op.operands.eq_5 (aI @Op.operands.eq_6 (aI @Op.operands.eq_7 (aI @Op.operands.eq_8 (aI @Op.operands.eq_9 (aI @Op.operands.eq_10 (aI @Op.operands.eq_11 (aI @Op.operands.eq_12 (aI @Op.operands.eq_13 (aI @Op.operands.eq_14 (aI @Op.operands.eq_15 (aI @Op.operands.eq_16 (aI @Op.operands.eq_17 (aI @Op.operands.eq_18 (aI @Op.operands.eq_19 (aI @Op.operands.eq_20 (aI @Op.operands.eq_21 (aI @Op.operands.eq_22 (aI @Op.operands.eq_23 (aI @Op.operands.eq_24 (aI @Op.operands.eq_25 (aI @Op.operands.eq_26 (aI @Op.operands.eq_27 (aI @Op.operands.eq_28 (aI @Op.operands.eq_29 (aI @Op.operands.eq_30 (aI @Op.operands.eq_31 (aI @Op.operands.eq_32 (aI @Op.operands.eq_33 (aI @Op.operands.eq_34 (aI @Op.operands.eq_35 (aI @Op.operands.eq_36 (aI @Op.operands.eq_37 (aI @Op.operands.eq_38 (aI @Op.operands.eq_39 (aI @Op.operands.eq_40 (aI @Op.operands.eq_41 (aI @Op.operands.eq_42 (aI @Op.operands.eq_43 (aI @Call.operands.eq_1 (aI @SG (@Array.toList_append.{0})))))))))))))))))))))))))))))))))))))))))))))))))):=(aI @wY.eq_def (aI @eO.eq_1 (aI @eO.eq_2 (aI @dV.eq_1 (aI @Op.operands.eq_1 (aI @Op.operands.eq_2 (aI @Op.operands.eq_3 (aI @Op.operands.eq_4 (aI @Op.operands.eq_5 (aI @Op.operands.eq_6 (aI @Op.operands.eq_7 (aI @Op.operands.eq_8 (aI @Op.operands.eq_9 (aI @Op.operands.eq_10 (aI @Op.operands.eq_11 (aI @Op.operands.eq_12 (aI @Op.operands.eq_13 (aI @Op.operands.eq_14 (aI @Op.operands.eq_15 (aI @Op.operands.eq_16 (aI @Op.operands.eq_17 (aI @Op.operands.eq_18 (aI @Op.operands.eq_19 (aI @Op.operands.eq_20 (aI @Op.operands.eq_21 (aI @Op.operands.eq_22 (aI @Op.operands.eq_23 (aI @Op.operands.eq_24 (aI @Op.operands.eq_25 (aI @Op.operands.eq_26 (aI @Op.operands.eq_27 (aI @Op.operands.eq_28 (aI @Op.operands.eq_29 (aI @Op.operands.eq_30 (aI @Op.operands.eq_31 (aI @Op.operands.eq_32 (aI @Op.operands.eq_33 (aI @Op.operands.eq_34 (aI @Op.operands.eq_35 (aI @Op.operands.eq_36 (aI @Op.operands.eq_37 (aI @Op.operands.eq_38 (aI @Op.operands.eq_39 (aI @Op.operands.eq_40 (aI @Op.operands.eq_41 (aI @Op.operands.eq_42 (aI @Op.operands.eq_43 (aI @Call.operands.eq_1 (aI @SG (@Array.toList_append.{0}))))))))))))))))))))))))))))))))))))))))))))))))))
theorem jO:type_of%(aI @eU.eq_1 (aI @eU.eq_2 (aI @eU.eq_3 (aI @eU.eq_4 (aI @eU.eq_5 (aI @eU.eq_6 (aI @eU.eq_7 (aI @eU.eq_8 (aI @eU.eq_9 (aI @eU.eq_10 (aI @eU.eq_11 (aI @eU.eq_12 (aI @eU.eq_13 (aI @eU.eq_14 (aI @eU.eq_15 (aI @eU.eq_16 (aI @eU.eq_17 (aI @eU.eq_18 (aI @eU.eq_19 (aI @eU.eq_20 (aI @eU.eq_21 (aI @eU.eq_22 (aI @eU.eq_23 (aI @iQ.eq_1 (aI @iQ.eq_2 (aI @iQ.eq_3 (aI @sP.eq_1 (aI @mY.eq_1 (aI @mY.eq_2 (aI @cY.eq_1 (aI @cY.eq_2 (aI @uP.eq_1 (aI @YN.eq_def (aI @mA.eq_1 (aI @mA.eq_2 (aI @mA.eq_3 (aI @BT.eq_1 (aI @BT.eq_2 (aI @dW.eq_1 (aI @dW.eq_2 (aI @dW.eq_3 (aI @dW.eq_4 (aI @dW.eq_5 (aI @dW.eq_6 (aI @dW.eq_7 (aI @dW.eq_8 (aI @dW.eq_9 (aI @dW.eq_10 (aI @dW.eq_11 (aI @dW.eq_12 (aI @dW.eq_13 (aI @dW.eq_14 (aI @dW.eq_15 (aI @dW.eq_16 (aI @dW.eq_17 (aI @dW.eq_18 (aI @dW.eq_19 (aI @dW.eq_20 (aI @dW.eq_21 (aI @dW.eq_22 (aI @dW.eq_23 (aI @dW.eq_24 (aI @dW.eq_25 (aI @dW.eq_26 (aI @dW.eq_27 (aI @dW.eq_28 (aI @dW.eq_29 (aI @dW.eq_30 (aI @aun.eq_1 (aI @aun.eq_2 (aI @aun.eq_3 (aI @dX.eq_1 (aI @dX.eq_2 (aI @dX.eq_3 (aI @dX.eq_4 (aI @dX.eq_5 (aI @oE.eq_1 (aI @oE.eq_2 (aI @fH.eq_1 (aI @fH.eq_2 (aI @kO.eq_1 (aI @kO.eq_2 (aI @kO.eq_3 (aI @kO.eq_4 (aI @kO.eq_5 (aI @kW.eq_1 (aI @kW.eq_2 (aI @BQ.eq_1 (aI @BQ.eq_2 (aI @lE.eq_1 (aI @lE.eq_2 (aI @eU.eq_24 (aI @eU.eq_25 (aI @eU.eq_26 (aI @lC.eq_1 (aI @mH.eq_1 (aI @EX.eq_1 (aI @EX.eq_2 (@Option.isSome_some.{0}))))))))))))))))))))))))))))))))))))))))))))))))))))))))))))))))))))))))))))))))))))))))))))))))))):=(aI @eU.eq_1 (aI @eU.eq_2 (aI @eU.eq_3 (aI @eU.eq_4 (aI @eU.eq_5 (aI @eU.eq_6 (aI @eU.eq_7 (aI @eU.eq_8 (aI @eU.eq_9 (aI @eU.eq_10 (aI @eU.eq_11 (aI @eU.eq_12 (aI @eU.eq_13 (aI @eU.eq_14 (aI @eU.eq_15 (aI @eU.eq_16 (aI @eU.eq_17 (aI @eU.eq_18 (aI @eU.eq_19 (aI @eU.eq_20 (aI @eU.eq_21 (aI @eU.eq_22 (aI @eU.eq_23 (aI @iQ.eq_1 (aI @iQ.eq_2 (aI @iQ.eq_3 (aI @sP.eq_1 (aI @mY.eq_1 (aI @mY.eq_2 (aI @cY.eq_1 (aI @cY.eq_2 (aI @uP.eq_1 (aI @YN.eq_def (aI @mA.eq_1 (aI @mA.eq_2 (aI @mA.eq_3 (aI @BT.eq_1 (aI @BT.eq_2 (aI @dW.eq_1 (aI @dW.eq_2 (aI @dW.eq_3 (aI @dW.eq_4 (aI @dW.eq_5 (aI @dW.eq_6 (aI @dW.eq_7 (aI @dW.eq_8 (aI @dW.eq_9 (aI @dW.eq_10 (aI @dW.eq_11 (aI @dW.eq_12 (aI @dW.eq_13 (aI @dW.eq_14 (aI @dW.eq_15 (aI @dW.eq_16 (aI @dW.eq_17 (aI @dW.eq_18 (aI @dW.eq_19 (aI @dW.eq_20 (aI @dW.eq_21 (aI @dW.eq_22 (aI @dW.eq_23 (aI @dW.eq_24 (aI @dW.eq_25 (aI @dW.eq_26 (aI @dW.eq_27 (aI @dW.eq_28 (aI @dW.eq_29 (aI @dW.eq_30 (aI @aun.eq_1 (aI @aun.eq_2 (aI @aun.eq_3 (aI @dX.eq_1 (aI @dX.eq_2 (aI @dX.eq_3 (aI @dX.eq_4 (aI @dX.eq_5 (aI @oE.eq_1 (aI @oE.eq_2 (aI @fH.eq_1 (aI @fH.eq_2 (aI @kO.eq_1 (aI @kO.eq_2 (aI @kO.eq_3 (aI @kO.eq_4 (aI @kO.eq_5 (aI @kW.eq_1 (aI @kW.eq_2 (aI @BQ.eq_1 (aI @BQ.eq_2 (aI @lE.eq_1 (aI @lE.eq_2 (aI @eU.eq_24 (aI @eU.eq_25 (aI @eU.eq_26 (aI @lC.eq_1 (aI @mH.eq_1 (aI @EX.eq_1 (aI @EX.eq_2 (@Option.isSome_some.{0})))))))))))))))))))))))))))))))))))))))))))))))))))))))))))))))))))))))))))))))))))))))))))))))))))
theorem jL:type_of%(aI @iQ.eq_1 (aI @iQ.eq_2 (@iQ.eq_3))):=(aI @iQ.eq_1 (aI @iQ.eq_2 (@iQ.eq_3)))
theorem jN:type_of%(aI @true_and (aI @and_true (aI @LS (aI @SS (aI @SX (aI @HS (aI @MC (aI @RS (aI @NN (aI @aT6.{0,0} (aI @beq_self_eq_true.{0} (@aUb)))))))))))):=(aI @true_and (aI @and_true (aI @LS (aI @SS (aI @SX (aI @HS (aI @MC (aI @RS (aI @NN (aI @aT6.{0,0} (aI @beq_self_eq_true.{0} (@aUb))))))))))))
theorem kA:type_of%(aI @jA (aI @jO @jN)):=aI @jA (aI @jO @jN)
theorem kC:type_of%(aI @jC @jN):=aI @jC @jN
theorem kE:type_of%(aI @jE @jN):=aI @jE @jN
theorem SC{P:Program}{N:Nat}{ops:Array Oper}{Q:dG}{k:Nat}{o:Oper}{l:List Oper}{T:aD}{G:Nat->Bool}{H:aC}{r:PV}(hc:dV ops.toList T G N o=some false)
  (h:DP P N ops Q (k+1) l (eZ (.tup []) (bU T o.dst r) (vV G o.dst false)) H):DP P N ops Q k (o::l) (eZ (.tup []) T G) H:=by
 intro prev hn;rw[gQ]at h;exact sT [] (λp hp=>.inr ⟨by rw[hn p hp];simp,z6⟩) hc (h _ (hn.app _ _))
theorem jS:(∀x:Operand,(some x).toArray.toList= [x])/\((none:Option Operand).toArray.toList= [])/\((none:Option Operand).isNone=true)/\(∀x:Operand,(some x).isNone=false)/\(∀l:List Operand,[]++l=l)/\(∀l:List Operand,l++ []=l)/\
  (∀(x:Operand) (l m:List Operand),(x::l)++m=x::(l++m))/\((false=true)=False)/\(∀p:Prop,(p/\False)=False)/\(∀p:Prop,(False/\p)=False)/\(∀(c:Bool) (G:Nat->Bool) (v:Value),zH c G (.const v)=true):=
 ⟨λ_=>rfl,rfl,rfl,λ_=>rfl,λ_=>rfl,λl=>aT4 l,λ_ _ _=>rfl,z6,z6,z6,λ_ _ _=>rfl⟩
section
variable{P:Program}{N nb:Nat}{ops:Array Oper}{Q:dG}
end
section
variable{P:Program}{N nb:Nat}{ops:Array Oper}{Q:dG}
end
section
variable{E:aE}(ho:E.Ok){H1 L:aC}(hE:E.H=H1++L){ib id k cp sz:Nat}{es:List PV}
  (hib:H1.length<=ib) (hid:H1.length<=id) (hne:ib≠id) (hbox:E.H[ib]? =some (.row [.msl id 0 k cp])) (hrow:E.H[id]? =some (.row (aH es))) (hk:k<=es.length) (hcp:es.length=cp)
  (hes:∀e∈es,e.cells.length=sz) (hb:∀e∈es,∀x∈e.cells,aZ H1.length x)
end
section
variable{P:Program}{N nb:Nat}{Q:dG}
end
section
variable{P:Program}{N nb:Nat}{ops:Array Oper}{Q:dG}
end
section
variable{P:Program}{N nb:Nat}{ops:Array Oper}{Q:dG}
end
open Go.RowKit
section
variable{P:Program}{f:FuncId}{args:List PV}{H:aC}{r:PV}
theorem FI{w w':World}(h:Below w.heap.size w w')(a:Addr)(v:Value)(hc:w.cell? a=some v):w'.cell? a=some v:=by
 have hlt:a.block<w.heap.size:=by
  rcases aSk a.block w.heap.size with q|q
  ·exact q
  ·unfold World.cell? at hc;rw[Array.getElem?_eq_none q]at hc;simp at hc
 unfold World.cell? at hc⊢;rw[h.block _ hlt];exact hc
theorem oT(h:∀(E:aE) (vargs:Array Value),E.Ok->E.H=H->RL E.view vargs args->∃v,aL E.view v r/\Calls P f vargs E.w λe w'=>e= .returned v/\Below E.w.heap.size E.w w'):aN P f args H λr' H'=>r'=r/\H'=H:=by
 intro E vargs ho hH hrl;obtain⟨v,hv,hc⟩:=h E vargs ho hH hrl;refine hc.mono λe w' ⟨he,hb⟩=> ?_
 let E':aE:= {E with w:=w'}
 have hview:E.view.le E'.view:=by
  refine⟨λa v hc=> ?_,λid h=>h,λid _=>rfl,λid t' _ ht=>⟨t',ht, .inl rfl⟩⟩;simp only[aE.view,E']at hc⊢
  split at hc
  ·rename_i hs;rw[if_pos hs];exact FI hb _ _ hc
  ·cases hc
 refine⟨E',v,r,he,rfl,⟨hb.os,hb.tape,hb.output,hb.size,λb hlt _=>⟨rfl,hb.block b hlt⟩,hview,λb _=>id⟩, ?_,hv.mono hview,rfl,hH⟩;refine⟨?_, ?_,ho.injr,ho.injb,ho.globs_of hview.cell λ_ _ _ h=>h,ho.objs.of hview λid k hi=>⟨hi,rfl,hb.block _ (ho.objs.lt hi),rfl⟩⟩
 ·intro id cs hi;obtain⟨arr,elem,h1,h2,h3,h4⟩:=ho.rows id cs hi;exact⟨arr,elem,(hb.block _ (ho.rowBlock hi)).trans h1,h2,λi hl=>(h3 i hl).mono hview,h4⟩
 ·intro id n sz b hi hb';obtain⟨arr,elem,pos,h1,h2⟩:=ho.bufs id n sz b hi hb';exact⟨arr,elem,pos,(hb.block _ (ho.bufBlock hi hb')).trans h1,h2⟩
end
end Go.Abs
namespace Go.Abs
open Go.RowKit
def EL(G H:aC):Prop:=∀(k:Nat) (o:AObj),G[k]? =some o->H[k]? =some o
theorem EL.refl(G:aC):EL G G:=λ_ _ h=>h
theorem EL.app{G H:aC}(h:EL G H)(L:aC):EL G (H++L):=λk o hk=>by
 have:=h k o hk;rw[aSv (lG this)];exact this
def PG(G:aC)(P:Program)(f:FuncId)(args:List PV)(r:PV):Prop:=∀H,EL G H->aN P f args H λr' H'=>r'=r/\H'=H
section
variable{P:Program}{N:Nat}
theorem RP{G:aC}{f:FuncId}{fn:Func}{c:Code}{args:List PV}{r:PV}(hf:P.funcs[f]? =some fn)(hb:fn.body=some c)(hN:fn.ntmps=N)(hl:args.length<=N)(hr:aZ 0 r)
  (h:∀H,EL G H->jF H.length H->eA P N H.length c (λe T H'=>(e= .normal\/e= .ret)/\∃r' L,fP P N T H' fn.results.toList=some r'/\r'.drop1=r/\H'=H++L) (enter args) H):PG G P f args r:=
 λH hG=>gK hf hb hN hl (hr.mono (aTn _)) λhb'=>h H hG hb'
theorem zP{E:aE}(ho:E.Ok){id b:Nat}{vs:List Value}(hid:E.H[id]? =some (.glob b vs)){i:Nat}(h:i<vs.length):E.w.cell? ⟨b,i,none⟩=some vs[i]:=by
 have:=ho.globs id b vs hid i h;simp only[aE.view]at this
 split at this
 ·exact this
 ·cases this
end
end Go.Abs
namespace Go.Abs
structure aR9(P:Program)(t:TypeId) where
 f0:Field
 f1:Field
 ut:P.underlying t=some (.struct #[f0,f1])
 held:P.stoodInHeld t=false
 n0:f0.name≠ "_"
 n1:f1.name≠ "_"
 o0:f0.offset=0
 o1:f1.offset=1
 u0:P.underlying f0.type=some (.int .i64)
 u1:P.underlying f1.type=some .string
 a0:∀w,(isAgg f0.type).run P w= .ok false w
 a1:∀w,(isAgg f1.type).run P w= .ok false w
 gu:P.eqGuardType P.depth t=false
theorem rP{P:Program}{N:Nat}{ops:Array Oper}{Q:dG}{k:Nat}{o:Oper}{l:List Oper}{T:aD}{G:Nat->Bool}{H:aC}{v:PV}(hc:dV ops.toList T G N o=some true)(hg:o.op.operands.toList.all (zH true G)=true)
  (hv:∀(E:aE) (a:Act),E.Ok->(∀x∈o.op.operands.toList,aQ N x=true->aL E.view (a.eval x) (bT T x))->∃val,(execOp a.eval o).run P E.w= .ok (.value val) E.w/\aL E.view val v)
  (h:DP P N ops Q (k+1) l (eZ (.tup []) (bU T o.dst v) (vV G o.dst true)) H):DP P N ops Q k (o::l) (eZ (.tup []) T G) H:=by
 intro prev hn;rw[gG]at h;refine⟨v,[],[], ?_,z6,λp hp=>.inr ⟨z6,z6⟩,h _ (hn.app _ _)⟩;intro T' H' hT hHd hlen E a ho hE ht;refine .inr ⟨cB ht (gL hT ((iO hc).1 rfl _)),λnext Q hnx=> ?_⟩;obtain⟨val,h1,h2⟩:=hv E a ho λx hx hok=>by
  have:=aM ht x hok
  rwa [mO hT x hx,lY (aTr.1 hg x hx)]at this
 unfold Oper.wp;rw[h1];exact hnx E val (.refl E) ho hE h2
open Go.Lib (iterAt_size iterAt_other iterAt_heap run_next_any_at run_next_end_at)
section
variable{P:Program}{N nb:Nat}{ops:Array Oper}{Q:dG}
end
end Go.Abs
namespace Go.Abs
section
variable{P:Program}{N nb:Nat}{ops:Array Oper}{Q:dG}
theorem lN{o:Oper}{l:List Oper}{T:aD}{H:aC}{x y:Operand}{t u:TypeId}{ei:TypeId×TI}{z e1:PV}{tl:jM}{n:Nat}{oc:List PV}(hw:aU ops.toList T N o=some true)
  (hop:o.op= .call ⟨.builtin .append, #[x,y], #[t,u]⟩) (okx:aQ N x=true) (oky:aQ N y=true) (hy:bT T y= .slice [e1] tl)
  (hb:(n+1)*ei.2.bytes<=2^47) (hm:n+1<=maxLen) (hxs:e1.cells.length=ei.2.sz)
  (hte:dH P t=some ei) (htu:(dH P u).isSome=true) (hz:dC P ei.1=some z) (hzf:z.fits ei.2=true)
  (hold:∀(E:aE) (v:Value),E.Ok->E.H=H->aL E.view v (bT T x)->∃ad,v= .slice ad n n/\∃arrs,(Builtin.firstCells ei.2.sz n (.slice ad n n)).run P E.w= .ok arrs E.w/\RL E.view arrs oc)
  (h:∀(c:Nat) (rest:List PV),n+1<=c->c<=maxLen->rest=(aS6 (c- (n+1)) z.cells).flatten->bH P N nb ops Q l (bU T o.dst (.msl H.length 0 (n+1) c)) (H++ [.row (oc++e1.cells++rest)])):bH P N nb ops Q (o::l) T H:=by
 intro E a ho hH ht;subst hH;obtain⟨e,i⟩:=ei;obtain⟨h1,h2⟩:=dE hte;obtain⟨dd,f,h3,h4,rfl⟩:=cA h2;obtain⟨f',zv,h5,h6,rfl⟩:=eQ hz;simp only at h5 hzf hb hxs hold;rw[h4]at h5;cases h5;obtain⟨hzs,hzj⟩:=PV.fits_spec hzf;simp only at hzs;obtain⟨zc1,zc2⟩:=(dR E.view zv).not_junk_cells hzj;obtain⟨eu,hue⟩:=mD htu;have hvx:=aM ht x okx;have hvy:=aM ht y oky;rw[hy]at hvy;have hd:=ho.drew;obtain⟨adx,vx,arrs,s1,s2⟩:=hold E.drew _ hd rfl hvx;have hxs':∀q∈ [e1],q.cells.length=f.size:=λq hq=>by rw[aT2.1 hq];exact hxs
 have em:maxLen=9223372036854775807:=z7
 obtain⟨c,hc6,hc7,hc8⟩:=lZ (P:=P) (w:=E.w) (n+1) n e;have hcm:c<=maxLen:=by
  have:=hc8 (by have e2:maxLen=2^63-1:=rfl;omega);have e2:maxLen=2^63-1:=rfl;omega
 obtain⟨arrx,r1,r2,ady,capy,vy,hcy1,hcy2,_⟩:=mX (P:=P) (E:=E.drew) hvy hxs';have hzl2:RL E.drew.view (Builtin.zeroCells zv.cells (c- (n+1))) ((aS6 (c- (n+1)) (aT zv).cells).flatten):=by
  have:=qV (V:=E.drew.view) zv hzj (c- (n+1));rw[lB]at this;exact this
 have hfe:aH [e1]=e1.cells:=by simp[aH]
 rw[hfe]at r2
 let arr:Array Value:=arrs++arrx++Builtin.zeroCells zv.cells (c- (n+1))
 have hrl:RL E.drew.view arr (oc++e1.cells++(aS6 (c- (n+1)) (aT zv).cells).flatten):=pA (pA s2 r2) hzl2;have hun:E.drew.ext.H[E.H.length]? =some .unborn:=by simp[aE.ext,aE.drew]
 have hle':=E.drew.ext_le.trans (aE.newRow_le (E:=E.drew.ext) hd.ext (id:=E.H.length) hun arr e (oc++e1.cells++(aS6 (c- (n+1)) (aT zv).cells).flatten));have hok':=aE.Ok.newRow (E:=E.drew.ext) hd.ext (id:=E.H.length) hun arr e (oc++e1.cells++(aS6 (c- (n+1)) (aT zv).cells).flatten) hrl.1 (λi hl=>(hrl.2 i hl).mono E.drew.ext_view_le);have hH':(E.drew.ext.newRow E.H.length arr e (oc++e1.cells++(aS6 (c- (n+1)) (aT zv).cells).flatten)).H=E.H++ [.row (oc++e1.cells++(aS6 (c- (n+1)) (aT zv).cells).flatten)]:=by
  simp only[aE.newRow,aE.ext,aE.drew];rw[aTw _ _ (aSl _)];simp
 have run1:(execOp a.eval o).run P E.w= .ok (.value (.slice (some ⟨E.w.heap.size,0,none⟩) (n+1) c)) (E.drew.ext.newRow E.H.length arr e (oc++e1.cells++(aS6 (c- (n+1)) (aT zv).cells).flatten)).w:=by
  unfold execOp;rw[hop];simp only;refine(fL (c:=⟨.builtin .append, #[x,y], #[t,u]⟩) (a:=a) (E:=E) (P:=P) (xs:= [x,y]) (ts:= [t,u]) (ty:=o.type) rfl rfl rfl (s:=Builtin.append_ #[t,u] o.type #[a.eval x,a.eval y]) rfl).trans ?_;have hc6':(choose (.appendCap (n+1) n e)).run P E.w= .ok c E.drew.w:=hc6;have n2:¬n+1<=n:=z8
  have n3:¬((n+1:Nat):Int)>IntKind.i64.max:=by
   have e1:IntKind.i64.max=9223372036854775807:=z7
   rw[e1];omega
  have n4:¬Builtin.nextslicecap (n+1) n*f.bytes>2^48:=by
   have:=nW (n+1) n z8;have:=aTj f.bytes this;rw[Nat.mul_assoc]at this;omega
  have r1':(Builtin.firstCells f.size 1 (.slice ady 1 capy)).run P E.drew.w= .ok arrx E.drew.w:=by have:=r1;rw[vy]at this;exact this
  have vy':a.eval y= .slice ady 1 capy:=vy;simp only[Builtin.append_,aTa,aTo,aS3,aS4,aS h1,dK h4,aS hue,aS5,aS7,vx,vy',Builtin.lenOf,n2,n3,n4,if_true,if_false,pB h4,
   aTp,aTc,jH h4 h6,hc6',CI,s1,r1',Go.newRow,run_newObj,false_and]
  rfl
 have hv:aL (E.drew.ext.newRow E.H.length arr e (oc++e1.cells++(aS6 (c- (n+1)) (aT zv).cells).flatten)).view (.slice (some ⟨E.w.heap.size,0,none⟩) (n+1) c) (.msl E.H.length 0 (n+1) c):=by
  have:=aL.msl (V:=(E.drew.ext.newRow E.H.length arr e (oc++e1.cells++(aS6 (c- (n+1)) (aT zv).cells).flatten)).view) E.H.length 0 (n+1) c
   ⟨.row _,by rw[hH',aSw (aSl _),Nat.sub_self];rfl,z6⟩ hcm
  simpa[aE.view,aE.newRow,aE.drew,aE.ext]using this
 refine iS (cB ht hw) ?_;unfold Oper.wp;rw[run1];show wpList P ops _ _ (a.put o.dst _) _;have hle:=E.drew_le.trans hle';have hn:=h c _ hc7 hcm rfl _ _ hok' hH' ((ht.mono hle.view).put o.dst hv);exact eV (λe a w hl=>eP (hle.leN nb) (λ_ _ _ q=>q) hl) l _ _ hn
theorem pN{o:Oper}{l:List Oper}{T:aD}{H:aC}{x y:Operand}{t u:TypeId}{ei:TypeId×TI}{e1:PV}{tl:jM}{id n c:Nat}{cs:List PV}(hid:H[id]? =some (.row cs))(hw:aU ops.toList T N o=some true)
  (hop:o.op= .call ⟨.builtin .append, #[x,y], #[t,u]⟩) (okx:aQ N x=true) (oky:aQ N y=true) (hx:bT T x= .msl id 0 n c) (hy:bT T y= .slice [e1] tl) (hn:n+1<=c) (hcs:cs.length=c*ei.2.sz)
  (hxs:e1.cells.length=ei.2.sz) (hcell:e1.cells.all PV.isCell=true)
  (hte:dH P t=some ei) (htu:(dH P u).isSome=true)
  (h:bH P N nb ops Q l (bU T o.dst (.msl id 0 (n+1) c)) (H.set id (.row (cY cs (n*ei.2.sz) e1.cells)))):bH P N nb ops Q (o::l) T H:=by
 refine fW hw (λE a ho hH ht=> ?_) h;subst hH;obtain⟨e,i⟩:=ei;obtain⟨h1,h2⟩:=dE hte;obtain⟨dd,f,h3,h4,rfl⟩:=cA h2;simp only at hxs hcs⊢;obtain⟨eu,hue⟩:=mD htu;have hvx:=aM ht x okx;have hvy:=aM ht y oky;rw[hx]at hvx;rw[hy]at hvy;have hxs':∀q∈ [e1],q.cells.length=f.size:=λq hq=>by rw[aT2.1 hq];exact hxs
 obtain⟨arrx,r1,r2,ady,capy,vy,hcy1,hcy2,_⟩:=mX (P:=P) (E:=E) hvy hxs';have hfe:aH [e1]=e1.cells:=by simp[aH]
 rw[hfe]at r2;have vx:a.eval x= .slice (some ⟨E.ρ id,0,none⟩) n c/\c<=maxLen/\E.view.born id:=by
  generalize a.eval x=w at hvx;cases hvx with
  |msl _ _ _ _ hbn hm=>exact⟨rfl,hm,hbn⟩
 obtain⟨vx,hcm,hbn⟩:=vx;obtain⟨E',e1',e2,e3,e4⟩:=vC (P:=P) (id:=id) (off:=n*f.size) arrx.toList e1.cells 0 E cs ho hid (by rw[aSs];exact r2.1) (λj hj=>by
  have:=r2.2 j hj;rw[aSo]at this;rw[aTe,aTf];exact this) hcell (by
   rw[aSs,r2.1,hxs,hcs];have:(n+1)*f.size<=c*f.size:=aTj _ hn;rw[Nat.add_mul]at this;omega)
 refine⟨E', .slice (some ⟨E.ρ id,0,none⟩) (n+1) c, .inl ?_,e2,e3,by rw[e4,Nat.add_zero], ?_⟩
 ·unfold execOp;rw[hop];simp only;refine(fL (c:=⟨.builtin .append, #[x,y], #[t,u]⟩) (a:=a) (E:=E) (P:=P) (xs:= [x,y]) (ts:= [t,u]) (ty:=o.type) rfl rfl rfl (s:=Builtin.append_ #[t,u] o.type #[a.eval x,a.eval y]) rfl).trans ?_;have r1':(Builtin.firstCells f.size 1 (.slice ady 1 capy)).run P E.w= .ok arrx E.w:=by have:=r1;rw[vy]at this;exact this
  have vy':a.eval y= .slice ady 1 capy:=vy;have hadd:(⟨E.ρ id,0,none⟩:Addr).add (n*f.size)=⟨E.ρ id,n*f.size,none⟩:=by rw[dD,aTh]
  simp only[Builtin.append_,aTa,aTo,aS3,aS4,aS h1,dK h4,aS hue,aS5,aS7,vx,vy',Builtin.lenOf,hn,if_true,if_false,
   aTp,aTc,r1',hadd,e1']
 ·have:=aL.msl (V:=E'.view) id 0 (n+1) c (e2.view.born id hbn) hcm;rw[e2.view.rho id hbn]at this;exact this
theorem sE{E:aE}{v:Value}{id n sz:Nat}{cs:List PV}(ho:E.Ok)(hid:E.H[id]? =some (.row cs))(hcs:cs.length=n*sz)(hv:aL E.view v (.msl id 0 n n)):∃ad,v= .slice ad n n/\∃arrs,(Builtin.firstCells sz n (.slice ad n n)).run P E.w= .ok arrs E.w/\RL E.view arrs cs:=by
 cases hv with
 |msl _ _ _ _ hbn hm=>
  obtain⟨arr,elem,h1,h2,h3,h4⟩:=ho.rows id cs hid;refine⟨_,rfl,_,run_loadCells E.w ⟨E.ρ id,0,none⟩ (n*sz) (λk=>arr.getD k undef) (λk hk=> ?_),⟨by simp[hcs],λi hi=> ?_⟩⟩
  ·rw[dD,aTh,kZ h1,aSo,aSt z8];rfl
  ·rw[aSo];have hi':i<n*sz:=z8
   simp only[aTa,aTb,List.getElem?_range hi',aS1,aSu];exact h3 i hi
end
def u8v(b:UInt8):PV:=.int .u8 b.toNat
theorem JY{P:Program}{N nb:Nat}{ops:Array Oper}{Q:dG}{o:Oper}{l:List Oper}{T:aD}{H:aC}{x:Operand}{t u e:TypeId}{s:List UInt8}(hop:o.op= .convert t u x)(hx:bT T x= .str s)(okx:aQ N x=true)
  (ht:P.underlying t=some .string) (hu:P.underlying u=some (.slice e)) (he:P.underlying e=some (.int .u8)) (hs:s.length<=maxLen) (hw:aU ops.toList T N o=some true)
  (h:bH P N nb ops Q l (bU T o.dst (.slice (s.map u8v) .none)) H):bH P N nb ops Q (o::l) T H:=by
 refine fW hw (λE a ho hH htr=> ?_) h;have hv:=aM htr x okx;rw[hx]at hv;generalize hq:a.eval x=w at hv;cases hv with
 |str z=>
  have hd:=ho.drew;have hlen:z.data.toList.length=z.size:=rfl;have em:maxLen=9223372036854775807:=z7
  obtain⟨c,hc6,hc7,hc8⟩:=lZ (P:=P) (w:=E.w) z.size 0 e;have hcg:c=grownCap E.w z.size 0 e:=by
   have h2:(choose (.appendCap z.size 0 e)).run P E.w= .ok (grownCap E.w z.size 0 e) E.w.drew:=by
    simp only[choose,Sem.run,Question.forced,aTc,if_false,Question.cut,grownCap];rfl
   rw[hc6]at h2;cases h2;rfl
  have hcm:c<=maxLen:=by
   have:=hc8 (by have e2:maxLen=2^63-1:=rfl;omega);have e2:maxLen=2^63-1:=rfl;omega
  have hrun:=run_bytes_of_string (P:=P) E.w t u e z ht hu he;rw[<-hcg]at hrun;refine⟨E.drew.newFixed (.cells (bytesRow z c) e ((bytesRow z c).size,(bytesRow z c).size+1)), .slice (some ⟨E.w.heap.size,0,none⟩) z.size c, .inl ?_,E.drew_le.trans (aE.newFixed_le hd _),hd.newFixed _,hH, ?_⟩
  ·unfold execOp;rw[hop];simp only[aS4,hq,hrun,aS5,aS7];rfl
  ·refine .slice _ _ _ 1 _ _ (λi _=>.int .u8 (z.data.toList.getD i 0).toNat) z6 hc7 hcm ?_ ?_ ?_ trivial
   ·intro i hi;simp only[aSh];rfl
   ·intro i j hi hj;have hj0:j=0:=z8
    subst hj0;rw[dD,Nat.mul_one,Nat.add_zero,aTh];refine aE.cell_of ?_ ?_
    ·show rZ.stable (if E.w.heap.size=E.w.heap.size then .fixed else _) _=true;rw[if_pos rfl];rfl
    ·show World.cell? (World.alloc E.w.drew _) _=_;unfold World.cell?;have:=heap_alloc_new E.w.drew (.cells (bytesRow z c) e ((bytesRow z c).size,(bytesRow z c).size+1));rw[show E.w.drew.heap.size=E.w.heap.size from rfl]at this;rw[this];have hi':i<z.data.size:=hi;simp[bytesRow,Array.getElem?_append,hi,aSt hi',aTe]
   ·intro i j hi hj;simp only[aSh]at hj⊢;have hi':i<z.data.toList.length:=by simpa using hi
    have hj0:j=0:=by
     have:j<1:=hj;omega
    subst hj0;rw[aTe,aTd hi'];exact aL.int _ _
structure aR6(P:Program)(t:TypeId) where
 f0:Field
 f1:Field
 ut:P.underlying t=some (.struct #[f0,f1])
 held:P.stoodInHeld t=false
 n0:f0.name≠ "_"
 n1:f1.name≠ "_"
 o0:f0.offset=0
 o1:f1.offset=1
 u0:P.underlying f0.type=some (.int .i64)
 u1:P.underlying f1.type=some (.int .i64)
 a0:∀w,(isAgg f0.type).run P w= .ok false w
 a1:∀w,(isAgg f1.type).run P w= .ok false w
 gu:P.eqGuardType P.depth t=false
section
variable{P:Program}{N nb:Nat}{ops:Array Oper}{Q:dG}{o:Oper}{l:List Oper}{T:aD}{G:Nat->Bool}{H:aC}{t y':TypeId}{x y:Operand}{a b c d:Int}
end
open Go.ChangeMaps (setBlock)
section
variable{P:Program}{N nb:Nat}{ops:Array Oper}{Q:dG}
theorem mF.length{V:cS}:∀ {ms:List MapEntry} {es:List (Int×PV)},mF V ms es->ms.length=es.length
 | [],[],_=>rfl
 |m::ms,e::es,h=>by rw[aS2,aS2,mF.length h.2.2]
 | [],_::_,h=>h.elim
 |_::_,[],h=>h.elim
theorem mF.get{V:cS}:∀ {ms:List MapEntry} {es:List (Int×PV)},mF V ms es->∀(i:Nat) (h:i<ms.length) (h':i<es.length),ms[i].key= .int .i64 es[i].1/\aL V ms[i].val es[i].2
 |m::ms,e::es,h,0,_,_=>⟨h.1,h.2.1⟩
 |m::ms,e::es,h,i+1,h1,h2=>mF.get h.2.2 i _ _
 | [],[],_,i,h,_=>absurd h (Nat.not_lt_zero _)
 | [],_::_,h,_,_,_=>h.elim
 |_::_,[],h,_,_,_=>h.elim
end
end Go.Abs
namespace Go.Abs
def aE.reRow(E:aE)(id:Nat)(w':World)(cs:List PV):aE:= {E with w:=w',H:=E.H.set id (.row cs)}
structure World.Re(w w':World)(b:Nat):Prop where
 os:w'.os=w.os
 tape:w'.tape=w.tape
 output:w'.output=w.output
 size:w.heap.size<=w'.heap.size
 other:∀x,x<w.heap.size->x≠b->w'.heap[x]? =w.heap[x]?
section
variable{E:aE}(h:E.Ok){id:Nat}{cs:List PV}(hi:E.H[id]? =some (.row cs)){w':World}(ht:World.Re E.w w' (E.ρ id))(cs':List PV)
include h hi ht
theorem aE.reRow_view:E.view.le (E.reRow id w' cs').view:=by
 have hlen:=lG hi;obtain⟨arr,elem,h1,h2,h3,h4⟩:=h.rows id cs hi;refine⟨λa u hc=> ?_,λx hb=> ?_,λx hb=>rfl,λx t' hb ht=>⟨t', ?_, .inl rfl⟩⟩
 ·have hl:=cell?_lt (aE.cell_stable hc);simp only[aE.view]at hc⊢
  split at hc
  ·rename_i hs;have hne:a.block≠E.ρ id:=by intro e;rw[e,h4]at hs;simp[rZ.stable]at hs
   simp only[aE.reRow,hs,if_true];rw[cell?_congr (ht.other _ hl hne)];exact hc
  ·cases hc
 ·obtain⟨o,a1,a2⟩:=hb
  by_cases e:x=id
  ·exact⟨.row cs',by simp only[aE.reRow,aK hlen,if_pos e],z6⟩
  ·exact⟨o,by simp only[aE.reRow,aK hlen,if_neg e];exact a1,a2⟩
 ·by_cases e:x=id
  ·simp only[aE.view,aE.reRow,aK hlen,if_pos e]at ht;cases ht
  ·simp only[aE.view,aE.reRow,aK hlen,if_neg e]at ht⊢;exact ht
theorem aE.reRow_le:E.le (E.reRow id w' cs'):=by
 have hlen:=lG hi;refine⟨ht.os,ht.tape,ht.output,ht.size,λb hb hn=>⟨rfl, ?_⟩,aE.reRow_view h hi ht cs',λb hb=>Or.imp ?_ (Or.imp ?_ (aE.ownsObj_of λx k hx=> ?_))⟩
 ·exact ht.other _ hb (λe=>hn (.inl ⟨id,cs,hi,e.symm⟩))
 ·rintro⟨x,cs2,a1,a2⟩;simp only[aE.reRow,aK hlen]at a1 a2
  split at a1
  ·rename_i e;exact⟨id,cs,hi,by rw[<-e];exact a2⟩
  ·exact⟨x,cs2,a1,a2⟩
 ·rintro⟨x,n,sz,a1,a2⟩;simp only[aE.reRow,aK hlen]at a1 a2
  split at a1
  ·cases a1
  ·exact⟨x,n,sz,a1,a2⟩
 ·simp only[aE.reRow,aK hlen]at hx
  split at hx
  ·cases hx
  ·exact⟨hx,rfl⟩
theorem aE.Ok.reRow(hr:∃arr elem,w'.heap[E.ρ id]? =some (.cells arr elem (0,0))/\arr.size=cs'.length/\∀i (hl:i<cs'.length),aL E.view (arr.getD i undef) cs'[i]):(E.reRow id w' cs').Ok:=by
 have hlen:=lG hi;have hle:=aE.reRow_view h hi ht cs';obtain⟨arr,elem,h1,h2,h3,h4⟩:=h.rows id cs hi;have hbl:E.ρ id<E.w.heap.size:=h.rowBlock hi;refine⟨?_, ?_, ?_, ?_,h.globs_of hle.cell (by intro x b vs hx;simp only[aE.reRow,aK hlen]at hx;split at hx<;>first|exact hx|cases hx),h.objs.of hle λx k hx=> ?_⟩
 rotate_left 4
 ·simp only[aE.reRow,aK hlen]at hx
  split at hx
  ·cases hx
  ·refine⟨hx,rfl,ht.other _ (h.objs.lt hx) λe=> ?_,rfl⟩;obtain⟨⟨o,b1,b2⟩,_⟩:=h.objs.at_ x k hx;rw[show E.ρ x=E.ρ id from e,h1]at b1;cases b1;exact b2.cells
 ·intro x cs2 hx;simp only[aE.reRow,aK hlen]at hx
  split at hx
  ·rename_i e;cases hx;subst e;obtain⟨arr',elem',a1,a2,a3⟩:=hr;exact⟨arr',elem',a1,a2,λi hl=>(a3 i hl).mono hle,h4⟩
  ·rename_i e;obtain⟨arr2,elem2,b1,b2,b3,b4⟩:=h.rows x cs2 hx;refine⟨arr2,elem2, ?_,b2,λi hl=>(b3 i hl).mono hle,b4⟩;simp only[aE.reRow];rw[ht.other _ (h.rowBlock hx) (λq=>e (h.injr x id cs2 cs hx hi q))];exact b1
 ·intro x n sz b hx hb;simp only[aE.reRow,aK hlen]at hx hb
  split at hx
  ·cases hx
  ·obtain⟨arr2,elem2,pos,b1,b2⟩:=h.bufs x n sz b hx hb;refine⟨arr2,elem2,pos, ?_,b2⟩;simp only[aE.reRow];rw[ht.other _ (h.bufBlock hx hb) (λq=>by rw[q,h4]at b2;cases b2)];exact b1
 ·intro x x' c c' a1 a2 e;simp only[aE.reRow,aK hlen]at a1 a2 e;have fix:∀(y:Nat) (c:List PV),(if y=id then some (AObj.row cs')else E.H[y]?)=some (.row c)->∃d,E.H[y]? =some (AObj.row d):=by
   intro y c q
   split at q
   ·rename_i e;subst e;exact⟨cs,hi⟩
   ·exact⟨c,q⟩
  obtain⟨d,hd⟩:=fix _ _ a1;obtain⟨d',hd'⟩:=fix _ _ a2;exact h.injr x x' d d' hd hd' e
 ·intro x x' n sz n' sz' b a1 a2 e e';simp only[aE.reRow,aK hlen]at a1 a2 e e'
  split at a1<;>split at a2
  ·cases a1
  ·cases a1
  ·cases a2
  ·exact h.injb x x' n sz n' sz' b a1 a2 e e'
end
def wkA(T:aD):aD:=λt=>(T t).drop1
section
variable{P:Program}{N nb:Nat}{Q:dG}
theorem aHi{c:Code}{T:aD}{H:aC}(h:eA P N nb c Q (wkA T) H):eA P N nb c Q T H:=by
 intro E a ho hH ht;exact h E a ho hH ⟨ht.size,ht.defers,λi hi=>(ht.rel i hi).drop1⟩
theorem eA.monoK{c:Code}{T:aD}{H:aC}{Q Q':dG}(h:eA P N nb c Q T H)(hq:∀e T H,Q e T H->Q' e (wkA T) H\/Q' e T H):eA P N nb c Q' T H:=by
 intro E a ho hH ht;refine wp_mono (h E a ho hH ht) ?_;rintro e a' w' ⟨E',T',h1,h2,h3,h4,h5⟩;rcases hq _ _ _ h5 with k|k
 ·exact⟨E',wkA T',h1,h2,h3,⟨h4.size,h4.defers,λi hi=>(h4.rel i hi).drop1⟩,k⟩
 ·exact⟨E',T',h1,h2,h3,h4,k⟩
theorem VL{c:Code}{T:aD}{H:aC}{σ:Type}(rep:σ->List (Nat×PV))(H0:aC)(hp:σ->aC)(m:σ->Nat)(fE:σ->Prop)(s0:σ)(L0:aC)(hT:rL (wkA T) (rep s0))(hH:H=H0++hp s0++L0)(hg:fE s0)(hlen:∀s,fE s->nb<=(H0++hp s).length)
  (bel:∀s,fE s->jF (H0++hp s).length (H0++hp s)/\kI (H0++hp s).length (rep s))
  (round:∀s,fE s->eA P N nb c (aW (λT' H'=>∃s' L,m s'<m s/\rL (wkA T') (rep s')/\H'=H0++hp s'++L/\fE s') Q) (uD (rep s)) (H0++hp s)):eA P N nb (.loop c) Q T H:=by
 refine aHi (iD rep H0 hp m fE s0 L0 hT hH hg hlen bel λs hs=>(round s hs).monoK λe T' H' he=> ?_);cases e with
 |normal=>exact .inl he
 |_=>exact .inr he
end
set_option linter.unusedSectionVars false
def EA:AObj:=.glob 0 []
def aE.frz1(E:aE)(id:Nat):aE:= {E with κ:=λb=>if b=E.ρ id then .fixed else E.κ b,H:=E.H.set id EA}
section
variable{E:aE}(ho:E.Ok){id:Nat}{cs:List PV}(hid:E.H[id]? =some (.row cs))
include ho hid
theorem aE.frz1_mut:E.κ (E.ρ id)= .mut:=by obtain⟨_,_,_,_,_,h⟩:=ho.rows id cs hid;exact h
theorem aE.frz1_get{x:Nat}(hx:x≠id):(E.frz1 id).H[x]? =E.H[x]? :=by
 show(E.H.set id EA)[x]? =_;rw[aS0 (Ne.symm hx)]
theorem aE.frz1_at:(E.frz1 id).H[id]? =some EA:=by
 show(E.H.set id EA)[id]? =_;rw[aSz (lG hid)]
theorem aE.frz1_row{x:Nat}{r:List PV}(h:(E.frz1 id).H[x]? =some (.row r)):x≠id/\E.H[x]? =some (.row r):=by
 by_cases e:x=id
 ·subst e;rw[aE.frz1_at ho hid]at h;cases h
 ·exact⟨e,by rw[<-aE.frz1_get ho hid e];exact h⟩
theorem aE.frz1_buf{x n sz:Nat}(h:(E.frz1 id).H[x]? =some (.buf n sz)):E.H[x]? =some (.buf n sz):=by
 by_cases e:x=id
 ·subst e;rw[aE.frz1_at ho hid]at h;cases h
 ·rw[<-aE.frz1_get ho hid e];exact h
theorem aE.frz1_obj{x:Nat}{k:sA}(h:(E.frz1 id).H[x]? =some (.obj k)):x≠id/\E.H[x]? =some (.obj k):=by
 by_cases e:x=id
 ·subst e;rw[aE.frz1_at ho hid]at h;cases h
 ·exact⟨e,by rw[<-aE.frz1_get ho hid e];exact h⟩
theorem aE.frz1_cell(a:Addr)(v:Value)(h:E.view.cell a=some v):(E.frz1 id).view.cell a=some v:=by
 simp only[aE.view]at h⊢
 split at h
 ·rename_i hs;have:((E.frz1 id).κ a.block).stable a.off=true:=by
   simp only[aE.frz1]
   split
   ·rfl
   ·exact hs
  rw[if_pos this];exact h
 ·cases h
theorem aE.frz1_view:E.view.le (E.frz1 id).view:=by
 refine⟨aE.frz1_cell ho hid,λx ⟨o,h1,h2⟩=> ?_,λx _=>rfl,λx t' _ ht=>⟨t', ?_, .inl rfl⟩⟩
 ·by_cases e:x=id
  ·subst e;exact⟨EA,aE.frz1_at ho hid,by simp[EA]⟩
  ·exact⟨o,by rw[aE.frz1_get ho hid e];exact h1,h2⟩
 ·simp only[aE.view]at ht⊢
  by_cases e:x=id
  ·subst e;rw[aE.frz1_at ho hid]at ht;simp[EA]at ht
  ·rw[aE.frz1_get ho hid e]at ht;cases hx:E.H[x]? with
   |none=>rw[hx]at ht;simp at ht
   |some o=>
    rw[hx]at ht;cases o with
    |buf n sz=>
     simp only at ht⊢;rw[<-ht];show some (WN.mk n sz ((E.tb x).bind _))=some (WN.mk n sz ((E.tb x).bind _));cases htb:E.tb x with
     |none=>rfl
     |some b=>
      simp only[aSy];obtain⟨_,_,pos,_,hk⟩:=ho.bufs x n sz b hx htb;have hne:b≠E.ρ id:=λe=>by rw[e,aE.frz1_mut ho hid]at hk;cases hk
      have:(E.frz1 id).κ b=E.κ b:=by simp only[aE.frz1];rw[if_neg hne]
      rw[this]
    |_=>simp at ht
theorem aE.frz1_le:E.le (E.frz1 id):=by
 refine⟨rfl,rfl,rfl,aSl _,λb hb h1=>⟨?_,rfl⟩,aE.frz1_view ho hid,λb hb=> ?_⟩
 ·simp only[aE.frz1];rw[if_neg];rintro rfl;exact h1 (.inl ⟨id,cs,hid,rfl⟩)
 ·rintro(⟨x,r,h1,h2⟩| ⟨x,n,sz,h1,h2⟩| ⟨x,k,h1,h2⟩)
  ·exact .inl ⟨x,r,(aE.frz1_row ho hid h1).2,h2⟩
  ·exact .inr (.inl ⟨x,n,sz,aE.frz1_buf ho hid h1,h2⟩)
  ·exact .inr (.inr ⟨x,k,(aE.frz1_obj ho hid h1).2,h2⟩)
theorem aE.Ok.frz1:(E.frz1 id).Ok:=by
 have hv:=aE.frz1_view ho hid;refine⟨?_, ?_, ?_, ?_, ?_,⟨?_, ?_⟩⟩
 ·intro x r hx;obtain⟨hne,hx⟩:=aE.frz1_row ho hid hx;obtain⟨arr,el,h1,h2,h3,h4⟩:=ho.rows x r hx;refine⟨arr,el,h1,h2,λi hi=>(h3 i hi).mono hv, ?_⟩;show(if E.ρ x=E.ρ id then rZ.fixed else E.κ (E.ρ x))= .mut;rw[if_neg λe=>hne (ho.injr x id r cs hx hid e)];exact h4
 ·intro x n sz b hx hb;have hx:=aE.frz1_buf ho hid hx;obtain⟨arr,el,pos,h1,h2⟩:=ho.bufs x n sz b hx hb;refine⟨arr,el,pos,h1, ?_⟩;show(if b=E.ρ id then rZ.fixed else E.κ b)=_;rw[if_neg λe=>by rw[e,aE.frz1_mut ho hid]at h2;cases h2];exact h2
 ·intro x x' r r' hx hx' e;exact ho.injr x x' r r' (aE.frz1_row ho hid hx).2 (aE.frz1_row ho hid hx').2 e
 ·intro x x' n sz n' sz' b hx hx' hb hb';exact ho.injb x x' n sz n' sz' b (aE.frz1_buf ho hid hx) (aE.frz1_buf ho hid hx') hb hb'
 ·intro x b vs hx i hi
  by_cases e:x=id
  ·subst e;rw[aE.frz1_at ho hid]at hx;injection hx with hx;injection hx with _ hx;subst hx;exact absurd hi (Nat.not_lt_zero _)
  ·rw[aE.frz1_get ho hid e]at hx;exact hv.cell _ _ (ho.globs x b vs hx i hi)
 ·intro x k hx;obtain⟨hne,hx⟩:=aE.frz1_obj ho hid hx;obtain⟨⟨o,h1,h2⟩,h3⟩:=ho.objs.at_ x k hx;refine⟨⟨o,h1,h2.mono hv⟩, ?_⟩;show(if E.ρ x=E.ρ id then rZ.fixed else E.κ (E.ρ x))= .mut;rw[if_neg λe=>by
   obtain⟨arr,el,a1,_⟩:=ho.rows id cs hid;rw[e,a1]at h1;cases h1;exact h2.cells]
  exact h3
 ·intro x x' k k' hx hx' e;exact ho.objs.inj x x' k k' (aE.frz1_obj ho hid hx).2 (aE.frz1_obj ho hid hx').2 e
end
theorem aE.frz1_msl{E:aE}(ho:E.Ok){v:Value}{id k c sz:Nat}{es:List PV}(h:aL E.view v (.msl id 0 k c))(hrow:E.H[id]? =some (.row (aH es)))(hk:k<=es.length)(hkc:k<=c)
  (hes:∀e∈es,e.cells.length=sz):aL (E.frz1 id).view v (.slice (es.take k) .none):=by
 obtain⟨arr,elem,h1,h2,h3,h4⟩:=ho.rows id _ hrow;have hv:=aE.frz1_view ho hrow;cases h with
 |msl _ _ _ _ hbn hm=>
  have hlenf:=bQ es hes;have hfix:(E.frz1 id).κ (E.ρ id)= .fixed:=by simp[aE.frz1]
  have hadd:∀n,(⟨E.ρ id,0,none⟩:Addr).add n=⟨E.ρ id,n,none⟩:=by
   intro n;rw[dD];simp
  have hbound:∀i j,i<k->j<sz->i*sz+j<es.length*sz:=by
   intro i j hi hj;have:(i+1)*sz<=es.length*sz:=aTj _ z8;rw[Nat.add_mul]at this;omega
  refine .slice _ k c sz (es.take k) .none (λi j=>arr.getD (i*sz+j) undef) (by rw[aS9];omega) hkc hm (λi hi=> ?_) (λi j hi hj=> ?_) (λi j hi hj=> ?_) trivial
  ·rw[List.getElem_take];exact hes _ (aTk _)
  ·show(E.frz1 id).view.cell ((⟨E.ρ id,0,none⟩:Addr).add (i*sz+j))=_;rw[hadd];simp only[aE.view,hfix,rZ.stable,if_true];show E.w.cell? _=_;have:=hbound i j hi hj;rw[kZ h1,aSo,aSt z8];rfl
  ·have hi':i<es.length:=by rw[aS9]at hi;omega
   simp only[List.getElem_take]at hj⊢;have hj':j<sz:=by rw[hes _ (aTk hi')]at hj;exact hj
   have hb:=hbound i j (by rw[aS9]at hi;omega) hj';have hf:i*sz+j<(aH es).length:=by rw[hlenf];exact hb
   have hr:=(h3 (i*sz+j) hf).mono hv;have he:(aH es)[i*sz+j]=(es[i].cells)[j]:=by
    have hget:=kF es hes i j hi' hj';rw[aTd hf,aTd (by rw[hes _ (aTk _)];exact hj')]at hget;exact Option.some.inj hget
   rw[he]at hr;exact hr
inductive Fz(id k:Nat)(es:List PV):PV->PV->Prop
 |same (p:PV):Fz id k es p p
 |msl (c:Nat) (h:k<=c):Fz id k es (.msl id 0 k c) (.slice (es.take k) .none)
 |agg (ps qs:List PV) (hl:ps.length=qs.length) (h:∀i (h1:i<ps.length) (h2:i<qs.length),Fz id k es ps[i] qs[i]):Fz id k es (.agg ps) (.agg qs)
theorem Fz.rel{E:aE}(ho:E.Ok){id k sz:Nat}{es:List PV}(hrow:E.H[id]? =some (.row (aH es)))(hk:k<=es.length)(hes:∀e∈es,e.cells.length=sz){p q:PV}(h:Fz id k es p q):∀ {v:Value},aL E.view v p->aL (E.frz1 id).view v q:=by
 induction h with
 |same p=>intro v hv;exact hv.mono (aE.frz1_view ho hrow)
 |msl c hc=>intro v hv;exact aE.frz1_msl ho hv hrow hk hc hes
 |agg ps qs hl _ ih=>
  intro v hv;cases hv with
  |agg arr _ ha hr=>exact .agg arr qs z8 λi hi=>ih i z8 hi (hr i z8)
section
variable{P:Program}{N nb:Nat}{Q:dG}
theorem MB{c:Code}{T:aD}{H:aC}(id k sz t:Nat)(es:List PV){p q:PV}(hrow:H[id]? =some (.row (aH es)))(hk:k<=es.length)(hes:∀e∈es,e.cells.length=sz)(hT:T t=p)(hq:Fz id k es p q)
  (h:eA P N nb c Q (oF T t q) (H.set id EA)):eA P N nb c Q T H:=by
 intro E a ho hH ht;subst hH;have hle:=aE.frz1_le ho hrow;refine wp_mono (h (E.frz1 id) a (aE.Ok.frz1 ho hrow) rfl ⟨ht.size,ht.defers,λi hi=> ?_⟩) λe a w hl=>eP (hle.leN nb) (λ_ _ _ q=>q) hl;unfold oF
 split
 ·rename_i e;subst e;have:=ht.rel i hi;rw[hT]at this;exact hq.rel ho hrow hk hes this
 ·exact(ht.rel i hi).mono hle.view
end
def Ty.zero:Ty:=.mk 0 0 []
abbrev MSt:=List Ty×List Bool
structure MOk(n:Nat)(s:MSt):Prop where
 l1:s.1.length=n
 l2:s.2.length=n
 w:∀a∈s.1,a.W
theorem TL{α:Type}{p:α->Bool}{xs:List α}(h:uN p xs>=0):uN p xs<xs.length:=by
 unfold uN at h⊢;cases hq:xs.findIdx? p with
 |none=>rw[hq]at h;simp at h
 |some i=>
  obtain⟨hi,_⟩:=List.findIdx?_eq_some_iff_getElem.1 hq;simp only;omega
set_option maxRecDepth 4000
structure Tk where
 kind:Int
 text:List UInt8
def Tk.enc(t:Tk):PV:=.agg [.int .i64 t.kind, .str t.text]
theorem Tk.enc_eq(t:Tk):t.enc= .agg [.int .i64 t.kind, .str t.text]:=rfl
theorem Tk.enc_cells(t:Tk):t.enc.cells= [.int .i64 t.kind, .str t.text]:=rfl
theorem Tk.eta(t:Tk):Tk.mk t.kind t.text=t:=rfl
theorem Tk.enc_drop1(t:Tk):t.enc.drop1=t.enc:=by rw[Tk.enc_eq];rfl
theorem Tk.enc_drop0(t:Tk):t.enc.drop0=t.enc:=by rw[Tk.enc_eq];rfl
theorem Tk.enc_len(t:Tk):t.enc.cells.length=2:=by rw[Tk.enc_cells];rfl
theorem Tk.enc_junk(t:Tk):t.enc.isJunk=false:=by rw[Tk.enc_eq];rfl
theorem Tk.enc_agg(t:Tk):PV.agg t.enc.cells=t.enc:=by rw[Tk.enc_cells,Tk.enc_eq]
theorem Tk.bel(n:Nat)(t:Tk):aZ n t.enc:=.agg _ (by
 intro c hc;simp only[aTv,aT7,or_false]at hc;rcases hc with rfl|rfl
 ·exact .int _ _
 ·exact .str _)
theorem jR(n:Nat)(us:List Tk):aZ n (.slice (us.map Tk.enc) .none):=.slice _ _ (λe he c hc=>by
 obtain⟨b,_,rfl⟩:=aTq.1 he;have:=Tk.bel n b;rw[Tk.enc_eq]at this hc;cases this with|agg _ h=>exact h c hc) z6
theorem iV{n id:Nat}(us:List Tk)(h:id<n):aZ n (.slice (us.map Tk.enc) (.tok id)):=by
 have:=jR n us;cases this with
 |slice _ _ h1 h2=>exact .slice _ _ h1 (λ_ e=>by cases e;exact h)
theorem TkS:(∀t:Tk,t.enc.cells= [.int .i64 t.kind, .str t.text])/\(∀t:Tk,t.enc.isJunk=false)/\(∀t:Tk,t.enc.drop1=t.enc)/\(∀t:Tk,t.enc.drop0=t.enc)/\(∀(t:Tk) (b:Nat),t.enc.fits ⟨true,2,b⟩=true):=
 ⟨Tk.enc_cells,Tk.enc_junk,Tk.enc_drop1,Tk.enc_drop0,λt b=>by rw[Tk.enc_eq];rfl⟩
theorem TkF:(∀(kind:Int) (text:List UInt8),PV.agg [.int .i64 kind, .str text]=(Tk.mk kind text).enc)/\
  (∀t:Tk,Tk.mk t.kind t.text=t)/\
  (∀(kind:Int) (text:List UInt8),(Tk.mk kind text).kind=kind)/\
  (∀(kind:Int) (text:List UInt8),(Tk.mk kind text).text=text):=
 ⟨λkind text=>(Tk.enc_eq (Tk.mk kind text)).symm,Tk.eta,λ_ _=>rfl,λ_ _=>rfl⟩
def Tk.W(t:Tk):Prop:=t.text.length<=2^47
theorem YR{us:List Tk}{u:Tk}{id:Nat}{tl:jM}(hb:(us.length+1)*24<=2^47)(fresh:Nat)(H:aC)(hH:H[id]? =some (.buf us.length 2)):
  dQ ⟨true,2,24⟩ fresh H (.slice (us.map Tk.enc) (.tok id)) (.slice [u.enc] tl)=some (.slice ((us++ [u]).map Tk.enc) (.tok id),some (id, .buf (us.length+1) 2)):=by
 have hmx:maxLen=9223372036854775807:=z7
 rw[xX (n:=us.length) hH z6 (by simpa using hb) (by simp;omega) (λe he=>by obtain⟨v,_,rfl⟩:=aTq.1 he;exact v.enc_len) u.enc_len (by rw[Tk.enc_cells];rfl) z7];simp
inductive St where
 |mk (kind:Int) (text:List UInt8) (ch:List (St))
def St.kind:St->Int| .mk x0 _ _=>x0
def St.text:St->List UInt8| .mk _ x1 _=>x1
def St.ch:St->List (St)| .mk _ _ x2=>x2
mutual
def St.enc:St->PV
 | .mk x0 x1 x2=>.agg [.int .i64 x0, .str x1, .slice (xO x2) .none]
def xO:List St->List PV
 | []=> []
 |t::ts=>t.enc::xO ts
end
theorem HO(ts:List St):xO ts=ts.map St.enc:=by
 induction ts with
 |nil=>rfl
 |cons t ts ih=>simp[xO,ih]
theorem St.enc_eq(t:St):t.enc= .agg [.int .i64 t.kind, .str t.text, .slice (t.ch.map St.enc) .none]:=by
 cases t;simp[St.enc,HO,St.kind,St.text,St.ch]
theorem St.enc_cells(t:St):t.enc.cells= [.int .i64 t.kind, .str t.text, .slice (t.ch.map St.enc) .none]:=by
 rw[St.enc_eq];rfl
theorem St.eta(t:St):St.mk t.kind t.text t.ch=t:=by cases t;rfl
theorem St.enc_drop1(t:St):t.enc.drop1=t.enc:=by rw[St.enc_eq];rfl
theorem St.enc_drop0(t:St):t.enc.drop0=t.enc:=by rw[St.enc_eq];rfl
theorem St.enc_len(t:St):t.enc.cells.length=3:=by rw[St.enc_cells];rfl
theorem St.enc_junk(t:St):t.enc.isJunk=false:=by rw[St.enc_eq];rfl
theorem St.enc_agg(t:St):PV.agg t.enc.cells=t.enc:=by rw[St.enc_cells,St.enc_eq]
mutual
theorem St.bel(n:Nat):∀t:St,aZ n t.enc
 | .mk x0 x1 x2=>.agg _ (by
   intro c hc;simp only[aTv,aT7,or_false]at hc;rcases hc with rfl|rfl|rfl
   ·exact .int _ _
   ·exact .str _
   ·exact .slice _ _ (AD n x2) (λid h=>by cases h))
theorem AD(n:Nat):∀ts:List St,∀e∈xO ts,∀c∈e.cells,aZ n c
 | []=>λe he=>by simp[xO]at he
 |t::ts=>λe he c hc=>by
  simp only[xO,aTv]at he;rcases he with rfl|he
  ·have h:=St.bel n t;rw[St.enc_eq]at h hc;cases h with
   |agg _ q=>exact q c hc
  ·exact AD n ts e he c hc
end
theorem gV(n:Nat)(ts:List St):aZ n (.slice (ts.map St.enc) .none):=by
 rw[<-HO];exact .slice _ _ (AD n ts) (λid h=>by cases h)
mutual
def St.size:St->Nat
 | .mk _ _ x2=>1+bE x2
def bE:List St->Nat
 | []=>0
 |t::ts=>t.size+bE ts
end
theorem BJ{u:St}:∀ {us:List St},u∈us->u.size<=bE us
 | [],h=>by cases h
 |v::us,h=>by
  simp only[bE];rcases aTv.1 h with rfl|h
  ·omega
  ·have:=BJ h;omega
theorem St.size_ch{t u:St}(h:u∈t.ch):u.size<t.size:=by
 cases t with
 |mk x0 x1 x2=>have:=BJ (us:=x2) h;simp only[St.size];omega
theorem oO:(∀t:St,t.enc.cells= [.int .i64 t.kind, .str t.text, .slice (t.ch.map St.enc) .none])/\(∀t:St,t.enc.isJunk=false)/\(∀t:St,t.enc.drop1=t.enc)/\(∀t:St,t.enc.drop0=t.enc)/\(∀(t:St) (b:Nat),t.enc.fits ⟨true,3,b⟩=true):=
 ⟨St.enc_cells,St.enc_junk,St.enc_drop1,St.enc_drop0,λt b=>by rw[St.enc_eq];rfl⟩
theorem oL:(∀(kind:Int) (text:List UInt8) (ch:List (St)),PV.agg [.int .i64 kind, .str text, .slice (ch.map St.enc) .none]=(St.mk kind text ch).enc)/\
  (∀(kind:Int) (text:List UInt8),PV.agg [.int .i64 kind, .str text, .slice [] .none]=(St.mk kind text []).enc)/\
  (∀t:St,St.mk t.kind t.text t.ch=t)/\
  (∀(kind:Int) (text:List UInt8) (ch:List (St)),(St.mk kind text ch).kind=kind)/\
  (∀(kind:Int) (text:List UInt8) (ch:List (St)),(St.mk kind text ch).text=text)/\
  (∀(kind:Int) (text:List UInt8) (ch:List (St)),(St.mk kind text ch).ch=ch):=
 ⟨λkind text ch=>(St.enc_eq (St.mk kind text ch)).symm,λkind text=>(St.enc_eq (St.mk kind text [])).symm,St.eta,λ_ _ _=>rfl,λ_ _ _=>rfl,λ_ _ _=>rfl⟩
inductive St.W:St->Prop
 |mk {kind:Int} {text:List UInt8} {ch:List (St)} (h0:text.length<=2^47) (h1:ch.length*48<=2^47) (kch:∀u∈ch,St.W u):St.W (.mk kind text ch)
theorem St.W.w0{t:St}(h:t.W):t.text.length<=2^47:=by cases h;assumption
theorem St.W.w1{t:St}(h:t.W):t.ch.length*48<=2^47:=by cases h;assumption
theorem St.W.ch{t u:St}(h:t.W)(hu:u∈t.ch):u.W:=by cases h with|mk=>exact(by assumption:∀u∈_,St.W u) u hu
theorem qC:type_of%(aI @TkS (aI @TkF (aI @oO (@oL)))):=aI @TkS (aI @TkF (aI @oO (@oL)))
set_option maxRecDepth 4000
theorem wQ{A B:Prop}(h:B)(t:B->A:=by
 intro z
 repeat refine wS ?_
 exact z):A:=t h
theorem ZW{p:Prop}(h:p:=by first|exact(aT4 _).symm|rfl):p:=h
theorem a2{p q:Prop}(a:p)(b:q):p/\q:=⟨a,b⟩
theorem a3{p q r:Prop}(a:p)(b:q)(c:r):p/\q/\r:=⟨a,b,c⟩
theorem a4{p q r s:Prop}(a:p)(b:q)(c:r)(d:s):p/\q/\r/\s:=⟨a,b,c,d⟩
theorem a5{p q r s t:Prop}(a:p)(b:q)(c:r)(d:s)(e:t):p/\q/\r/\s/\t:=⟨a,b,c,d,e⟩
section
variable{P:Program}{N nb:Nat}{ops:Array Oper}{Q:dG}{A X:Prop}{T T':aD}{H H':aC}{l:List Oper}{o:Oper}
theorem qE{id:Nat}(x:X)(h:Q .normal T' H')(t:eA P N nb (.region id ops false) Q T H->A:=by
  intro z
  repeat refine wS ?_
  exact z) (hs:X->AE P N ops.toList ops.toList (some (T,H))=some (T',H'):=by intro z;simp only[kA,seval,aB,qC,z]<;>with_reducible rfl) (hok:ops.toList.all (λo=>cK N o.op)=true:=by decide):A:=t (eE (hs x) hok h)
theorem nV{id:Nat}(h:Q .normal T' H')(t:eA P N nb (.region id ops false) Q T H->A:=by
  intro z
  repeat refine wS ?_
  exact z) (hs:AE P N ops.toList ops.toList (some (T,H))=some (T',H'):=by simp only[kA,seval,aB,qC]<;>with_reducible rfl) (hok:ops.toList.all (λo=>cK N o.op)=true:=by decide):A:=t (eE hs hok h)
theorem qT{id:Nat}(n:Nat)(x:X)(h:bH P N nb ops Q (ops.toList.drop n) T' H')(t:eA P N nb (.region id ops false) Q T H->A:=by
  intro z
  repeat refine wS ?_
  exact z) (hs:X->AE P N ops.toList (ops.toList.take n) (some (T,H))=some (T',H'):=by intro z;simp only[kA,seval,aB,qC,z]<;>with_reducible rfl) (hok:(ops.toList.take n).all (λo=>cK N o.op)=true:=by decide):A:=t (wR (eT n (hs x) hok h))
theorem KT{id:Nat}(n:Nat)(h:bH P N nb ops Q (ops.toList.drop n) T' H')(t:eA P N nb (.region id ops false) Q T H->A:=by
  intro z
  repeat refine wS ?_
  exact z) (hs:AE P N ops.toList (ops.toList.take n) (some (T,H))=some (T',H'):=by simp only[kA,seval,aB,qC]<;>with_reducible rfl) (hok:(ops.toList.take n).all (λo=>cK N o.op)=true:=by decide):A:=t (wR (eT n hs hok h))
theorem qU(n:Nat)(x:X)(h:bH P N nb ops Q (l.drop n) T' H')(hs:X->AE P N ops.toList (l.take n) (some (T,H))=some (T',H'):=by intro z;simp only[kA,seval,aB,qC,z]<;>with_reducible rfl)(hok:(l.take n).all (λo=>cK N o.op)=true:=by decide):bH P N nb ops Q l T H:=eT n (hs x) hok h
theorem qU0(n:Nat)(h:bH P N nb ops Q (l.drop n) T' H')(hs:AE P N ops.toList (l.take n) (some (T,H))=some (T',H'):=by simp only[kA,seval,aB,qC]<;>with_reducible rfl)(hok:(l.take n).all (λo=>cK N o.op)=true:=by decide):bH P N nb ops Q l T H:=eT n hs hok h
theorem qX(x:X)(h:Q .normal T' H')(hs:X->AE P N ops.toList l (some (T,H))=some (T',H'):=by intro z;simp only[kA,seval,aB,qC,z]<;>with_reducible rfl)(hok:l.all (λo=>cK N o.op)=true:=by decide):bH P N nb ops Q l T H:=nO (hs x) hok h
theorem OI(h:Q .normal T' H')(hs:AE P N ops.toList l (some (T,H))=some (T',H'):=by simp only[kA,seval,aB,qC]<;>with_reducible rfl)(hok:l.all (λo=>cK N o.op)=true:=by decide):bH P N nb ops Q l T H:=nO hs hok h
theorem qP{f:FuncId}{args:List PV}{r:PV}(x:X)(hgo:aP P f=true)(hc:aN P f args H λr' H''=>r'=r/\H''=H)(h:bH P N nb ops Q l (bU T o.dst r) H)(hcall:X->eO T o.op=some (f,args):=by intro z;simp only[kC,seval,aB,qC,z]<;>first|with_reducible rfl|rfl)(hw:X->aU ops.toList T N o=some true:=by intro z;simp only[kC,seval,aB,qC,z])(hok:cK N o.op=true:=by decide):bH P N nb ops Q (o::l) T H:=oP (hcall x) (hw x) hok hgo hc h
theorem KW{f:FuncId}{args:List PV}{r:PV}(hgo:aP P f=true)(hc:aN P f args H λr' H''=>r'=r/\H''=H)(h:bH P N nb ops Q l (bU T o.dst r) H)(hcall:eO T o.op=some (f,args):=by simp only[kC,seval,aB,qC]<;>first|with_reducible rfl|rfl)(hw:aU ops.toList T N o=some true:=by simp only[kC,seval,aB,qC])(hok:cK N o.op=true:=by decide):bH P N nb ops Q (o::l) T H:=oP hcall hw hok hgo hc h
theorem qA{f:FuncId}{args:List PV}{R:PV->aC->Prop}(x:X)(hgo:aP P f=true)(hc:aN P f args H R)(h:∀r H',R r H'->bH P N nb ops Q l (bU T o.dst r) H')(hcall:X->eO T o.op=some (f,args):=by intro z;simp only[kC,seval,aB,qC,z]<;>first|with_reducible rfl|rfl)(hw:X->aU ops.toList T N o=some true:=by intro z;simp only[kC,seval,aB,qC,z])(hok:cK N o.op=true:=by decide):bH P N nb ops Q (o::l) T H:=oC (hcall x) (hw x) hok hgo hc h
theorem qA0{f:FuncId}{args:List PV}{R:PV->aC->Prop}(hgo:aP P f=true)(hc:aN P f args H R)(h:∀r H',R r H'->bH P N nb ops Q l (bU T o.dst r) H')(hcall:eO T o.op=some (f,args):=by simp only[kC,seval,aB,qC]<;>first|with_reducible rfl|rfl)(hw:aU ops.toList T N o=some true:=by simp only[kC,seval,aB,qC])(hok:cK N o.op=true:=by decide):bH P N nb ops Q (o::l) T H:=oC hcall hw hok hgo hc h
theorem qI{c:Operand}{c1 c2:Code}{b:Bool}(x:X)(h1:b=true->eA P N nb c1 Q T H)(h2:b=false->eA P N nb c2 Q T H)(t:eA P N nb (.cond c c1 c2) Q T H->A:=by
  intro z
  repeat refine wS ?_
  exact z) (hc:aQ N c=true:=by rfl) (hb:X->bT T c= .bool b:=by intro z;simp only[jN,seval,aB,qC,z]<;>with_reducible rfl):A:=t (wC hc (hb x) h1 h2)
theorem GR{c:Operand}{c1 c2:Code}{b:Bool}(h1:b=true->eA P N nb c1 Q T H)(h2:b=false->eA P N nb c2 Q T H)(t:eA P N nb (.cond c c1 c2) Q T H->A:=by
  intro z
  repeat refine wS ?_
  exact z) (hc:aQ N c=true:=by rfl) (hb:bT T c= .bool b:=by simp only[jN,seval,aB,qC]<;>with_reducible rfl):A:=t (wC hc hb h1 h2)
theorem qF{c:Operand}{c1 c2:Code}(x:X)(h:eA P N nb c2 Q T H)(t:eA P N nb (.cond c c1 c2) Q T H->A:=by
  intro z
  repeat refine wS ?_
  exact z) (hc:aQ N c=true:=by rfl) (hb:X->bT T c= .bool false:=by intro z;simp only[jN,seval,aB,qC,z]<;>with_reducible rfl):A:=t (wF hc (hb x) h)
theorem qL(live:List Nat){m:List (Nat×PV)}{c:Code}(x:X)(h:eA P N nb c Q (uD m) H)(hl:X->live.map (λd=>(d,T d))=m:=by intro z;simp only[jN,seval,aB,qC,z]<;>with_reducible rfl):eA P N nb c Q T H:=wL live (hl x) h
theorem qL0(live:List Nat){m:List (Nat×PV)}{c:Code}(h:eA P N nb c Q (uD m) H)(hl:live.map (λd=>(d,T d))=m:=by simp only[jN,seval,aB,qC]<;>with_reducible rfl):eA P N nb c Q T H:=wL live hl h
theorem qK(h:Q .normal T H)(t:eA P N nb .skip Q T H->A:=by
  intro z
  repeat refine wS ?_
  exact z):A:=t (wK h)
theorem qB{id:Nat}{c:Code}(h:eA P N nb c (aO id Q) T H)(t:eA P N nb (.block id c) Q T H->A:=by
  intro z
  repeat refine wS ?_
  exact z):A:=t (fB h)
theorem gE{id:Nat}{F:aD}{G':Nat->Bool}(x:X)(h:Q .normal F H')(t:eA P N nb (.region id ops false) Q T H->A:=by
  intro z
  repeat refine wS ?_
  exact z) (hs:X->NO P N ops.toList ops.toList (some (T,DS,H))=some (T',G',H'):=by intro z;simp only[jG,jO,jN,seval,aB,qC,z]<;>with_reducible rfl) (hok:ops.toList.all (λo=>cK N o.op)=true:=by decide) (hf:fK T' G' F:=by repeat (first|exact fK.base _|with_reducible apply fK.keep|apply fK.drop)):A:=t (vG (hs x) hok hf h)
theorem gT(n:Nat){G G':Nat->Bool}(x:X)(h:bH P N nb ops Q (l.drop n) (eZ (.tup []) T' G') H')(hs:X->NO P N ops.toList (l.take n) (some (T,G,H))=some (T',G',H'):=by intro z;simp only[jG,jO,jN,seval,aB,qC,z]<;>with_reducible rfl)(hok:(l.take n).all (λo=>cK N o.op)=true:=by decide):bH P N nb ops Q l (eZ (.tup []) T G) H:=FB n (hs x) hok h
theorem gX{F:aD}{G G':Nat->Bool}(x:X)(h:Q .normal F H')(hs:X->NO P N ops.toList l (some (T,G,H))=some (T',G',H'):=by intro z;simp only[jG,jO,jN,seval,aB,qC,z]<;>with_reducible rfl)(hok:l.all (λo=>cK N o.op)=true:=by decide)(hf:fK T' G' F:=by repeat (first|exact fK.base _|with_reducible apply fK.keep|apply fK.drop)):bH P N nb ops Q l (eZ (.tup []) T G) H:=aB6 (hs x) hok hf h
theorem pT(n:Nat){k:Nat}{G G':Nat->Bool}(x:X)(h:DP P N ops Q (k+(l.take n).length) (l.drop n) (eZ (.tup []) T' G') H')(hs:X->MH P N ops.toList (l.take n) (some (T,G,H))=some (T',G',H'):=by intro z;simp only[jP,jO,jN,seval,aB,qC,z]<;>with_reducible rfl)(hok:(l.take n).all (λo=>cK N o.op)=true:=by decide):DP P N ops Q k l (eZ (.tup []) T G) H:=vQ n (hs x) hok h
theorem pX{k:Nat}{F:aD}{G G':Nat->Bool}(x:X)(h:Q .normal F H')(hs:X->MH P N ops.toList l (some (T,G,H))=some (T',G',H'):=by intro z;simp only[jP,jO,jN,seval,aB,qC,z]<;>with_reducible rfl)(hok:l.all (λo=>cK N o.op)=true:=by decide)(hf:fK T' G' F:=by repeat (first|exact fK.base _|with_reducible apply fK.keep|apply fK.drop)):DP P N ops Q k l (eZ (.tup []) T G) H:=xN (hs x) hok hf h
theorem pS{k:Nat}{G:Nat->Bool}(x:X)(h:DP P N ops Q (k+1) l (eZ (.tup []) (bU T o.dst (.tup [])) (vV G o.dst false)) H)(hc:X->dV ops.toList T G N o=some false:=by intro z;simp only[kE,seval,aB,qC,z]<;>with_reducible rfl):DP P N ops Q k (o::l) (eZ (.tup []) T G) H:=SC (hc x) h
theorem gS{G:Nat->Bool}(x:X)(h:bH P N nb ops Q l (eZ (.tup []) (bU T o.dst (.tup [])) (vV G o.dst false)) H)(hc:X->dV ops.toList T G N o=some false:=by intro z;simp only[kE,seval,aB,qC,z]<;>with_reducible rfl):bH P N nb ops Q (o::l) (eZ (.tup []) T G) H:=DA (hc x) h
theorem pK{k:Nat}{G:Nat->Bool}{c:Bool}{f:FuncId}{args:List PV}{r:PV}(x:X)(hgo:aP P f=true)(hp:c=true->aN P f args H λr' H''=>r'=r/\H''=H)(h:DP P N ops Q (k+1) l (eZ (.tup []) (bU T o.dst r) (vV G o.dst c)) H)(hcall:X->eO T o.op=some (f,args):=by intro z;simp only[kE,seval,aB,qC,z]<;>first|with_reducible rfl|rfl)(hc:X->dV ops.toList T G N o=some c:=by intro z;simp only[kE,seval,aB,qC,z]<;>with_reducible rfl)(hg:X->o.op.operands.toList.all (zH c G)=true:=by intro z;simp only[kE,seval,aB,qC,z])(hok:cK N o.op=true:=by decide):DP P N ops Q k (o::l) (eZ (.tup []) T G) H:=vX (hcall x) (hc x) (hg x) hok hgo hp h
theorem gP{G:Nat->Bool}{c:Bool}{f:FuncId}{args:List PV}{r:PV}(x:X)(hgo:aP P f=true)(hp:c=true->aN P f args H λr' H''=>r'=r/\H''=H)(h:bH P N nb ops Q l (eZ (.tup []) (bU T o.dst r) (vV G o.dst c)) H)(hcall:X->eO T o.op=some (f,args):=by intro z;simp only[kE,seval,aB,qC,z]<;>first|with_reducible rfl|rfl)(hc:X->dV ops.toList T G N o=some c:=by intro z;simp only[kE,seval,aB,qC,z]<;>with_reducible rfl)(hg:X->o.op.operands.toList.all (zH c G)=true:=by intro z;simp only[kE,seval,aB,qC,z])(hok:cK N o.op=true:=by decide):bH P N nb ops Q (o::l) (eZ (.tup []) T G) H:=pP (hcall x) (hc x) (hg x) hok hgo hp h
end
inductive Nd where
 |mk (kind value:Int) (text:List UInt8) (st en ns:Int) (kids:List Nd)
def Nd.kind:Nd->Int| .mk k _ _ _ _ _ _=>k
def Nd.value:Nd->Int| .mk _ v _ _ _ _ _=>v
def Nd.text:Nd->List UInt8| .mk _ _ t _ _ _ _=>t
def Nd.st:Nd->Int| .mk _ _ _ s _ _ _=>s
def Nd.en:Nd->Int| .mk _ _ _ _ e _ _=>e
def Nd.ns:Nd->Int| .mk _ _ _ _ _ n _=>n
def Nd.kids:Nd->List Nd| .mk _ _ _ _ _ _ us=>us
mutual
def Nd.enc:Nd->PV
 | .mk k v t s e n us=>.agg [.int .i64 k, .int .i64 v, .str t, .int .i64 s, .int .i64 e, .int .i64 n, .slice (wX us) .none]
def wX:List Nd->List PV
 | []=> []
 |t::ts=>t.enc::wX ts
end
theorem HY(ts:List Nd):wX ts=ts.map Nd.enc:=by
 induction ts with
 |nil=>rfl
 |cons t ts ih=>simp[wX,ih]
theorem Nd.enc_eq(t:Nd):t.enc= .agg [.int .i64 t.kind, .int .i64 t.value, .str t.text, .int .i64 t.st, .int .i64 t.en, .int .i64 t.ns, .slice (t.kids.map Nd.enc) .none]:=by
 cases t;simp[Nd.enc,HY,Nd.kind,Nd.value,Nd.text,Nd.st,Nd.en,Nd.ns,Nd.kids]
theorem Nd.enc_cells(t:Nd):t.enc.cells= [.int .i64 t.kind, .int .i64 t.value, .str t.text, .int .i64 t.st, .int .i64 t.en, .int .i64 t.ns, .slice (t.kids.map Nd.enc) .none]:=by
 rw[Nd.enc_eq];rfl
theorem Nd.enc_drop1(t:Nd):t.enc.drop1=t.enc:=by rw[Nd.enc_eq];rfl
theorem Nd.enc_len(t:Nd):t.enc.cells.length=7:=by rw[Nd.enc_cells];rfl
theorem Nd.enc_junk(t:Nd):t.enc.isJunk=false:=by rw[Nd.enc_eq];rfl
mutual
theorem Nd.bel(n:Nat):∀t:Nd,aZ n t.enc
 | .mk k v t s e m us=>.agg _ (by
   intro c hc;simp only[aTv,aT7,or_false]at hc;rcases hc with rfl|rfl|rfl|rfl|rfl|rfl|rfl
   ·exact .int _ _
   ·exact .int _ _
   ·exact .str _
   ·exact .int _ _
   ·exact .int _ _
   ·exact .int _ _
   ·exact .slice _ _ (IY n us) (λid h=>by cases h))
theorem IY(n:Nat):∀ts:List Nd,∀e∈wX ts,∀c∈e.cells,aZ n c
 | []=>λe he=>by simp[wX]at he
 |t::ts=>λe he c hc=>by
  simp only[wX,aTv]at he;rcases he with rfl|he
  ·have h:=Nd.bel n t;rw[Nd.enc_eq]at h hc;cases h with
   |agg _ q=>exact q c hc
  ·exact IY n ts e he c hc
end
theorem rO(n:Nat)(ts:List Nd):aZ n (.slice (ts.map Nd.enc) .none):=by
 rw[<-HY];exact .slice _ _ (IY n ts) (λid h=>by cases h)
mutual
def Nd.size:Nd->Nat
 | .mk _ _ _ _ _ _ us=>1+cO us
def cO:List Nd->Nat
 | []=>0
 |t::ts=>t.size+cO ts
end
theorem uH{u:Nd}:∀ {us:List Nd},u∈us->u.size<=cO us
 | [],h=>by cases h
 |v::us,h=>by
  simp only[cO];rcases aTv.1 h with rfl|h
  ·omega
  ·have:=uH h;omega
inductive Nd.W:Nd->Prop
 |mk {k v t s e n us} (hl:us.length*80<=2^47) (h:∀u∈us,Nd.W u):Nd.W (.mk k v t s e n us)
theorem Nd.W.kid{t u:Nd}(h:t.W)(hu:u∈t.kids):u.W:=by cases h with|mk _ h=>exact h u hu
theorem Nd.W.len{t:Nd}(h:t.W):t.kids.length*80<=2^47:=by cases h with|mk h _=>exact h
mutual
def Nd.eqb:Nd->Nd->Bool
 | .mk k v t s e n us, .mk k' v' t' s' e' n' vs=>decide (k=k')&&decide (v=v')&&decide (t=t')&&decide (s=s')&&decide (e=e')&&decide (n=n')&&xL us vs
def xL:List Nd->List Nd->Bool
 | [],[]=>true
 |u::us,v::vs=>u.eqb v&&xL us vs
 |_,_=>false
end
mutual
theorem Nd.eqb_iff:∀a b:Nd,a.eqb b=true↔a=b
 | .mk k v t s e n us, .mk k' v' t' s' e' n' vs=>by
  simp only[Nd.eqb,aSe,decide_eq_true_eq,Nd.mk.injEq,CZ us vs,and_assoc]
theorem CZ:∀us vs:List Nd,xL us vs=true↔us=vs
 | [],[]=>by simp[xL]
 | [],v::vs=>by simp[xL]
 |u::us,[]=>by simp[xL]
 |u::us,v::vs=>by simp[xL,Nd.eqb_iff u v,CZ us vs]
end
theorem Nd.eta(t:Nd):Nd.mk t.kind t.value t.text t.st t.en t.ns t.kids=t:=by cases t;rfl
theorem eX:(∀t:Nd,t.enc.cells= [.int .i64 t.kind, .int .i64 t.value, .str t.text, .int .i64 t.st, .int .i64 t.en, .int .i64 t.ns, .slice (t.kids.map Nd.enc) .none])/\(∀t:Nd,t.enc.isJunk=false)/\(∀t:Nd,t.enc.drop1=t.enc)/\(∀t:Nd,t.enc.drop0=t.enc)/\
  (∀(t:Nd) (b:Nat),t.enc.fits ⟨true,7,b⟩=true):=
 ⟨Nd.enc_cells,Nd.enc_junk,Nd.enc_drop1,λt=>by cases t;rfl,λt b=>by rw[Nd.enc_eq];rfl⟩
theorem Nd.fold(k v:Int)(t:List UInt8)(s e n:Int)(us:List Nd):PV.agg [.int .i64 k, .int .i64 v, .str t, .int .i64 s, .int .i64 e, .int .i64 n, .slice (us.map Nd.enc) .none]=(Nd.mk k v t s e n us).enc:=(Nd.enc_eq (Nd.mk k v t s e n us)).symm
theorem eY:(∀(k v:Int) (t:List UInt8) (s e n:Int) (us:List Nd),PV.agg [.int .i64 k, .int .i64 v, .str t, .int .i64 s, .int .i64 e, .int .i64 n, .slice (us.map Nd.enc) .none]=(Nd.mk k v t s e n us).enc)/\
  (∀(k v:Int) (t:List UInt8) (s e n:Int),PV.agg [.int .i64 k, .int .i64 v, .str t, .int .i64 s, .int .i64 e, .int .i64 n, .slice [] .none]=(Nd.mk k v t s e n []).enc)/\
  (∀(k v:Int) (t:List UInt8) (s e n:Int) (a:Nd),PV.agg [.int .i64 k, .int .i64 v, .str t, .int .i64 s, .int .i64 e, .int .i64 n, .slice [a.enc] .none]=(Nd.mk k v t s e n [a]).enc)/\
  (∀(k v:Int) (t:List UInt8) (s e n:Int) (a b:Nd),PV.agg [.int .i64 k, .int .i64 v, .str t, .int .i64 s, .int .i64 e, .int .i64 n, .slice [a.enc,b.enc] .none]=(Nd.mk k v t s e n [a,b]).enc)/\
  (∀t:Nd,Nd.mk t.kind t.value t.text t.st t.en t.ns t.kids=t)/\(∀(k v:Int) (t:List UInt8) (s e n:Int) (us:List Nd),(Nd.mk k v t s e n us).kind=k)/\(∀(k v:Int) (t:List UInt8) (s e n:Int) (us:List Nd),(Nd.mk k v t s e n us).value=v)/\
  (∀(k v:Int) (t:List UInt8) (s e n:Int) (us:List Nd),(Nd.mk k v t s e n us).text=t)/\(∀(k v:Int) (t:List UInt8) (s e n:Int) (us:List Nd),(Nd.mk k v t s e n us).st=s)/\(∀(k v:Int) (t:List UInt8) (s e n:Int) (us:List Nd),(Nd.mk k v t s e n us).en=e)/\
  (∀(k v:Int) (t:List UInt8) (s e n:Int) (us:List Nd),(Nd.mk k v t s e n us).ns=n)/\(∀(k v:Int) (t:List UInt8) (s e n:Int) (us:List Nd),(Nd.mk k v t s e n us).kids=us):=
 ⟨Nd.fold,λk v t s e n=>Nd.fold k v t s e n [],λk v t s e n a=>Nd.fold k v t s e n [a],λk v t s e n a b=>Nd.fold k v t s e n [a,b],Nd.eta,λ_ _ _ _ _ _ _=>rfl,λ_ _ _ _ _ _ _=>rfl,λ_ _ _ _ _ _ _=>rfl,λ_ _ _ _ _ _ _=>rfl,λ_ _ _ _ _ _ _=>rfl,λ_ _ _ _ _ _ _=>rfl,λ_ _ _ _ _ _ _=>rfl⟩
set_option maxRecDepth 4000
structure Md where
 name:List UInt8
 src:List UInt8
def Md.enc(t:Md):PV:=.agg [.str t.name, .str t.src]
theorem Md.enc_eq(t:Md):t.enc= .agg [.str t.name, .str t.src]:=rfl
theorem Md.enc_cells(t:Md):t.enc.cells= [.str t.name, .str t.src]:=rfl
theorem Md.eta(t:Md):Md.mk t.name t.src=t:=rfl
theorem Md.enc_drop1(t:Md):t.enc.drop1=t.enc:=by rw[Md.enc_eq];rfl
theorem Md.enc_drop0(t:Md):t.enc.drop0=t.enc:=by rw[Md.enc_eq];rfl
theorem Md.enc_len(t:Md):t.enc.cells.length=2:=by rw[Md.enc_cells];rfl
theorem Md.enc_junk(t:Md):t.enc.isJunk=false:=by rw[Md.enc_eq];rfl
theorem Md.enc_agg(t:Md):PV.agg t.enc.cells=t.enc:=by rw[Md.enc_cells,Md.enc_eq]
theorem Md.bel(n:Nat)(t:Md):aZ n t.enc:=.agg _ (by
 intro c hc;simp only[aTv,aT7,or_false]at hc;rcases hc with rfl|rfl
 ·exact .str _
 ·exact .str _)
theorem sV(n:Nat)(us:List Md):aZ n (.slice (us.map Md.enc) .none):=.slice _ _ (λe he c hc=>by
 obtain⟨b,_,rfl⟩:=aTq.1 he;have:=Md.bel n b;rw[Md.enc_eq]at this hc;cases this with|agg _ h=>exact h c hc) z6
theorem PQ{n id:Nat}(us:List Md)(h:id<n):aZ n (.slice (us.map Md.enc) (.tok id)):=by
 have:=sV n us;cases this with
 |slice _ _ h1 h2=>exact .slice _ _ h1 (λ_ e=>by cases e;exact h)
theorem MdS:(∀t:Md,t.enc.cells= [.str t.name, .str t.src])/\(∀t:Md,t.enc.isJunk=false)/\(∀t:Md,t.enc.drop1=t.enc)/\(∀t:Md,t.enc.drop0=t.enc)/\(∀(t:Md) (b:Nat),t.enc.fits ⟨true,2,b⟩=true):=
 ⟨Md.enc_cells,Md.enc_junk,Md.enc_drop1,Md.enc_drop0,λt b=>by rw[Md.enc_eq];rfl⟩
theorem MdF:(∀(name:List UInt8) (src:List UInt8),PV.agg [.str name, .str src]=(Md.mk name src).enc)/\
  (∀t:Md,Md.mk t.name t.src=t)/\
  (∀(name:List UInt8) (src:List UInt8),(Md.mk name src).name=name)/\
  (∀(name:List UInt8) (src:List UInt8),(Md.mk name src).src=src):=
 ⟨λname src=>(Md.enc_eq (Md.mk name src)).symm,Md.eta,λ_ _=>rfl,λ_ _=>rfl⟩
def Md.W(t:Md):Prop:=t.name.length<=2^47/\t.src.length<=2^47
structure Dg where
 code:Int
 mod:Int
 st:Int
 en:Int
 name:List UInt8
def Dg.enc(t:Dg):PV:=.agg [.int .i64 t.code, .int .i64 t.mod, .int .i64 t.st, .int .i64 t.en, .str t.name]
theorem Dg.enc_eq(t:Dg):t.enc= .agg [.int .i64 t.code, .int .i64 t.mod, .int .i64 t.st, .int .i64 t.en, .str t.name]:=rfl
theorem Dg.enc_cells(t:Dg):t.enc.cells= [.int .i64 t.code, .int .i64 t.mod, .int .i64 t.st, .int .i64 t.en, .str t.name]:=rfl
theorem Dg.eta(t:Dg):Dg.mk t.code t.mod t.st t.en t.name=t:=rfl
theorem Dg.enc_drop1(t:Dg):t.enc.drop1=t.enc:=by rw[Dg.enc_eq];rfl
theorem Dg.enc_drop0(t:Dg):t.enc.drop0=t.enc:=by rw[Dg.enc_eq];rfl
theorem Dg.enc_len(t:Dg):t.enc.cells.length=5:=by rw[Dg.enc_cells];rfl
theorem Dg.enc_junk(t:Dg):t.enc.isJunk=false:=by rw[Dg.enc_eq];rfl
theorem Dg.enc_agg(t:Dg):PV.agg t.enc.cells=t.enc:=by rw[Dg.enc_cells,Dg.enc_eq]
theorem Dg.bel(n:Nat)(t:Dg):aZ n t.enc:=.agg _ (by
 intro c hc;simp only[aTv,aT7,or_false]at hc;rcases hc with rfl|rfl|rfl|rfl|rfl
 ·exact .int _ _
 ·exact .int _ _
 ·exact .int _ _
 ·exact .int _ _
 ·exact .str _)
theorem jK(n:Nat)(us:List Dg):aZ n (.slice (us.map Dg.enc) .none):=.slice _ _ (λe he c hc=>by
 obtain⟨b,_,rfl⟩:=aTq.1 he;have:=Dg.bel n b;rw[Dg.enc_eq]at this hc;cases this with|agg _ h=>exact h c hc) z6
theorem QS{n id:Nat}(us:List Dg)(h:id<n):aZ n (.slice (us.map Dg.enc) (.tok id)):=by
 have:=jK n us;cases this with
 |slice _ _ h1 h2=>exact .slice _ _ h1 (λ_ e=>by cases e;exact h)
theorem DgS:(∀t:Dg,t.enc.cells= [.int .i64 t.code, .int .i64 t.mod, .int .i64 t.st, .int .i64 t.en, .str t.name])/\(∀t:Dg,t.enc.isJunk=false)/\(∀t:Dg,t.enc.drop1=t.enc)/\(∀t:Dg,t.enc.drop0=t.enc)/\(∀(t:Dg) (b:Nat),t.enc.fits ⟨true,5,b⟩=true):=
 ⟨Dg.enc_cells,Dg.enc_junk,Dg.enc_drop1,Dg.enc_drop0,λt b=>by rw[Dg.enc_eq];rfl⟩
theorem DgF:(∀(code:Int) (mod:Int) (st:Int) (en:Int) (name:List UInt8),PV.agg [.int .i64 code, .int .i64 mod, .int .i64 st, .int .i64 en, .str name]=(Dg.mk code mod st en name).enc)/\
  (∀t:Dg,Dg.mk t.code t.mod t.st t.en t.name=t)/\
  (∀(code:Int) (mod:Int) (st:Int) (en:Int) (name:List UInt8),(Dg.mk code mod st en name).code=code)/\
  (∀(code:Int) (mod:Int) (st:Int) (en:Int) (name:List UInt8),(Dg.mk code mod st en name).mod=mod)/\
  (∀(code:Int) (mod:Int) (st:Int) (en:Int) (name:List UInt8),(Dg.mk code mod st en name).st=st)/\
  (∀(code:Int) (mod:Int) (st:Int) (en:Int) (name:List UInt8),(Dg.mk code mod st en name).en=en)/\
  (∀(code:Int) (mod:Int) (st:Int) (en:Int) (name:List UInt8),(Dg.mk code mod st en name).name=name):=
 ⟨λcode mod st en name=>(Dg.enc_eq (Dg.mk code mod st en name)).symm,Dg.eta,λ_ _ _ _ _=>rfl,λ_ _ _ _ _=>rfl,λ_ _ _ _ _=>rfl,λ_ _ _ _ _=>rfl,λ_ _ _ _ _=>rfl⟩
def Dg.W(t:Dg):Prop:=t.name.length<=2^47
theorem DU{us:List Dg}{u:Dg}{id:Nat}{tl:jM}(hb:(us.length+1)*48<=2^47)(fresh:Nat)(H:aC)(hH:H[id]? =some (.buf us.length 5)):
  dQ ⟨true,5,48⟩ fresh H (.slice (us.map Dg.enc) (.tok id)) (.slice [u.enc] tl)=some (.slice ((us++ [u]).map Dg.enc) (.tok id),some (id, .buf (us.length+1) 5)):=by
 have hmx:maxLen=9223372036854775807:=z7
 rw[xX (n:=us.length) hH z6 (by simpa using hb) (by simp;omega) (λe he=>by obtain⟨v,_,rfl⟩:=aTq.1 he;exact v.enc_len) u.enc_len (by rw[Dg.enc_cells];rfl) z7];simp
structure Sy where
 kind:Int
 mod:Int
 st:Int
 par:Int
 name:List UInt8
 pub:Bool
def Sy.enc(t:Sy):PV:=.agg [.int .i64 t.kind, .int .i64 t.mod, .int .i64 t.st, .int .i64 t.par, .str t.name, .bool t.pub]
theorem Sy.enc_eq(t:Sy):t.enc= .agg [.int .i64 t.kind, .int .i64 t.mod, .int .i64 t.st, .int .i64 t.par, .str t.name, .bool t.pub]:=rfl
theorem Sy.enc_cells(t:Sy):t.enc.cells= [.int .i64 t.kind, .int .i64 t.mod, .int .i64 t.st, .int .i64 t.par, .str t.name, .bool t.pub]:=rfl
theorem Sy.eta(t:Sy):Sy.mk t.kind t.mod t.st t.par t.name t.pub=t:=rfl
theorem Sy.enc_drop1(t:Sy):t.enc.drop1=t.enc:=by rw[Sy.enc_eq];rfl
theorem Sy.enc_drop0(t:Sy):t.enc.drop0=t.enc:=by rw[Sy.enc_eq];rfl
theorem Sy.enc_len(t:Sy):t.enc.cells.length=6:=by rw[Sy.enc_cells];rfl
theorem Sy.enc_junk(t:Sy):t.enc.isJunk=false:=by rw[Sy.enc_eq];rfl
theorem Sy.enc_agg(t:Sy):PV.agg t.enc.cells=t.enc:=by rw[Sy.enc_cells,Sy.enc_eq]
theorem Sy.bel(n:Nat)(t:Sy):aZ n t.enc:=.agg _ (by
 intro c hc;simp only[aTv,aT7,or_false]at hc;rcases hc with rfl|rfl|rfl|rfl|rfl|rfl
 ·exact .int _ _
 ·exact .int _ _
 ·exact .int _ _
 ·exact .int _ _
 ·exact .str _
 ·exact .bool _)
theorem sS(n:Nat)(us:List Sy):aZ n (.slice (us.map Sy.enc) .none):=.slice _ _ (λe he c hc=>by
 obtain⟨b,_,rfl⟩:=aTq.1 he;have:=Sy.bel n b;rw[Sy.enc_eq]at this hc;cases this with|agg _ h=>exact h c hc) z6
theorem jV{n id:Nat}(us:List Sy)(h:id<n):aZ n (.slice (us.map Sy.enc) (.tok id)):=by
 have:=sS n us;cases this with
 |slice _ _ h1 h2=>exact .slice _ _ h1 (λ_ e=>by cases e;exact h)
theorem SyS:(∀t:Sy,t.enc.cells= [.int .i64 t.kind, .int .i64 t.mod, .int .i64 t.st, .int .i64 t.par, .str t.name, .bool t.pub])/\(∀t:Sy,t.enc.isJunk=false)/\(∀t:Sy,t.enc.drop1=t.enc)/\(∀t:Sy,t.enc.drop0=t.enc)/\(∀(t:Sy) (b:Nat),t.enc.fits ⟨true,6,b⟩=true):=
 ⟨Sy.enc_cells,Sy.enc_junk,Sy.enc_drop1,Sy.enc_drop0,λt b=>by rw[Sy.enc_eq];rfl⟩
theorem SyF:(∀(kind:Int) (mod:Int) (st:Int) (par:Int) (name:List UInt8) (pub:Bool),PV.agg [.int .i64 kind, .int .i64 mod, .int .i64 st, .int .i64 par, .str name, .bool pub]=(Sy.mk kind mod st par name pub).enc)/\
  (∀t:Sy,Sy.mk t.kind t.mod t.st t.par t.name t.pub=t)/\
  (∀(kind:Int) (mod:Int) (st:Int) (par:Int) (name:List UInt8) (pub:Bool),(Sy.mk kind mod st par name pub).kind=kind)/\
  (∀(kind:Int) (mod:Int) (st:Int) (par:Int) (name:List UInt8) (pub:Bool),(Sy.mk kind mod st par name pub).mod=mod)/\
  (∀(kind:Int) (mod:Int) (st:Int) (par:Int) (name:List UInt8) (pub:Bool),(Sy.mk kind mod st par name pub).st=st)/\
  (∀(kind:Int) (mod:Int) (st:Int) (par:Int) (name:List UInt8) (pub:Bool),(Sy.mk kind mod st par name pub).par=par)/\
  (∀(kind:Int) (mod:Int) (st:Int) (par:Int) (name:List UInt8) (pub:Bool),(Sy.mk kind mod st par name pub).name=name)/\
  (∀(kind:Int) (mod:Int) (st:Int) (par:Int) (name:List UInt8) (pub:Bool),(Sy.mk kind mod st par name pub).pub=pub):=
 ⟨λkind mod st par name pub=>(Sy.enc_eq (Sy.mk kind mod st par name pub)).symm,Sy.eta,λ_ _ _ _ _ _=>rfl,λ_ _ _ _ _ _=>rfl,λ_ _ _ _ _ _=>rfl,λ_ _ _ _ _ _=>rfl,λ_ _ _ _ _ _=>rfl,λ_ _ _ _ _ _=>rfl⟩
def Sy.W(t:Sy):Prop:=t.name.length<=2^47
theorem qM:type_of%(aI @MdS (@MdF)):=aI @MdS (@MdF)
theorem qG:type_of%(aI @DgS (@DgF)):=aI @DgS (@DgF)
theorem qZ:type_of%(aI @SyS (@SyF)):=aI @SyS (@SyF)
set_option maxRecDepth 4000
structure At where
 node:Nd
 pars:List (Nd)
 path:List (Int)
def At.enc(t:At):PV:=.agg [.int .i64 t.node.kind, .int .i64 t.node.value, .str t.node.text, .int .i64 t.node.st, .int .i64 t.node.en, .int .i64 t.node.ns, .slice (t.node.kids.map Nd.enc) .none, .slice (t.pars.map Nd.enc) .none, .slice (t.path.map aB) .none]
theorem At.enc_eq(t:At):t.enc= .agg [.int .i64 t.node.kind, .int .i64 t.node.value, .str t.node.text, .int .i64 t.node.st, .int .i64 t.node.en, .int .i64 t.node.ns, .slice (t.node.kids.map Nd.enc) .none, .slice (t.pars.map Nd.enc) .none, .slice (t.path.map aB) .none]:=rfl
theorem At.enc_cells(t:At):t.enc.cells= [.int .i64 t.node.kind, .int .i64 t.node.value, .str t.node.text, .int .i64 t.node.st, .int .i64 t.node.en, .int .i64 t.node.ns, .slice (t.node.kids.map Nd.enc) .none, .slice (t.pars.map Nd.enc) .none, .slice (t.path.map aB) .none]:=rfl
theorem At.eta(t:At):At.mk t.node t.pars t.path=t:=rfl
theorem At.enc_drop1(t:At):t.enc.drop1=t.enc:=by rw[At.enc_eq];rfl
theorem At.enc_drop0(t:At):t.enc.drop0=t.enc:=by rw[At.enc_eq];rfl
theorem At.enc_len(t:At):t.enc.cells.length=9:=by rw[At.enc_cells];rfl
theorem At.enc_junk(t:At):t.enc.isJunk=false:=by rw[At.enc_eq];rfl
theorem At.enc_agg(t:At):PV.agg t.enc.cells=t.enc:=by rw[At.enc_cells,At.enc_eq]
theorem At.bel(n:Nat)(t:At):aZ n t.enc:=.agg _ (by
 intro c hc;simp only[aTv,aT7,or_false]at hc;rcases hc with rfl|rfl|rfl|rfl|rfl|rfl|rfl|rfl|rfl
 ·exact .int _ _
 ·exact .int _ _
 ·exact .str _
 ·exact .int _ _
 ·exact .int _ _
 ·exact .int _ _
 ·exact rO _ _
 ·exact rO _ _
 ·exact eD _ _)
theorem sU(n:Nat)(us:List At):aZ n (.slice (us.map At.enc) .none):=.slice _ _ (λe he c hc=>by
 obtain⟨b,_,rfl⟩:=aTq.1 he;have:=At.bel n b;rw[At.enc_eq]at this hc;cases this with|agg _ h=>exact h c hc) z6
theorem jY{n id:Nat}(us:List At)(h:id<n):aZ n (.slice (us.map At.enc) (.tok id)):=by
 have:=sU n us;cases this with
 |slice _ _ h1 h2=>exact .slice _ _ h1 (λ_ e=>by cases e;exact h)
theorem AtS:(∀t:At,t.enc.cells= [.int .i64 t.node.kind, .int .i64 t.node.value, .str t.node.text, .int .i64 t.node.st, .int .i64 t.node.en, .int .i64 t.node.ns, .slice (t.node.kids.map Nd.enc) .none, .slice (t.pars.map Nd.enc) .none, .slice (t.path.map aB) .none])/\(∀t:At,t.enc.isJunk=false)/\(∀t:At,t.enc.drop1=t.enc)/\(∀t:At,t.enc.drop0=t.enc)/\(∀(t:At) (b:Nat),t.enc.fits ⟨true,9,b⟩=true):=
 ⟨At.enc_cells,At.enc_junk,At.enc_drop1,At.enc_drop0,λt b=>by rw[At.enc_eq];rfl⟩
theorem AtF:(∀(nodekind:Int) (nodevalue:Int) (nodetext:List UInt8) (nodest:Int) (nodeen:Int) (nodens:Int) (nodekids:List (Nd)) (pars:List (Nd)) (path:List (Int)),PV.agg [.int .i64 nodekind, .int .i64 nodevalue, .str nodetext, .int .i64 nodest, .int .i64 nodeen, .int .i64 nodens, .slice (nodekids.map Nd.enc) .none, .slice (pars.map Nd.enc) .none, .slice (path.map aB) .none]=(At.mk (Nd.mk nodekind nodevalue nodetext nodest nodeen nodens nodekids) pars path).enc)/\
  (∀(nodekind:Int) (nodevalue:Int) (nodetext:List UInt8) (nodest:Int) (nodeen:Int) (nodens:Int) (pars:List (Nd)) (path:List (Int)),PV.agg [.int .i64 nodekind, .int .i64 nodevalue, .str nodetext, .int .i64 nodest, .int .i64 nodeen, .int .i64 nodens, .slice [] .none, .slice (pars.map Nd.enc) .none, .slice (path.map aB) .none]=(At.mk (Nd.mk nodekind nodevalue nodetext nodest nodeen nodens []) pars path).enc)/\
  (∀(nodekind:Int) (nodevalue:Int) (nodetext:List UInt8) (nodest:Int) (nodeen:Int) (nodens:Int) (nodekids:List (Nd)) (path:List (Int)),PV.agg [.int .i64 nodekind, .int .i64 nodevalue, .str nodetext, .int .i64 nodest, .int .i64 nodeen, .int .i64 nodens, .slice (nodekids.map Nd.enc) .none, .slice [] .none, .slice (path.map aB) .none]=(At.mk (Nd.mk nodekind nodevalue nodetext nodest nodeen nodens nodekids) [] path).enc)/\
  (∀(nodekind:Int) (nodevalue:Int) (nodetext:List UInt8) (nodest:Int) (nodeen:Int) (nodens:Int) (nodekids:List (Nd)) (pars:List (Nd)),PV.agg [.int .i64 nodekind, .int .i64 nodevalue, .str nodetext, .int .i64 nodest, .int .i64 nodeen, .int .i64 nodens, .slice (nodekids.map Nd.enc) .none, .slice (pars.map Nd.enc) .none, .slice [] .none]=(At.mk (Nd.mk nodekind nodevalue nodetext nodest nodeen nodens nodekids) pars []).enc)/\
  (∀(nodekind:Int) (nodevalue:Int) (nodetext:List UInt8) (nodest:Int) (nodeen:Int) (nodens:Int) (path:List (Int)),PV.agg [.int .i64 nodekind, .int .i64 nodevalue, .str nodetext, .int .i64 nodest, .int .i64 nodeen, .int .i64 nodens, .slice [] .none, .slice [] .none, .slice (path.map aB) .none]=(At.mk (Nd.mk nodekind nodevalue nodetext nodest nodeen nodens []) [] path).enc)/\
  (∀(nodekind:Int) (nodevalue:Int) (nodetext:List UInt8) (nodest:Int) (nodeen:Int) (nodens:Int) (pars:List (Nd)),PV.agg [.int .i64 nodekind, .int .i64 nodevalue, .str nodetext, .int .i64 nodest, .int .i64 nodeen, .int .i64 nodens, .slice [] .none, .slice (pars.map Nd.enc) .none, .slice [] .none]=(At.mk (Nd.mk nodekind nodevalue nodetext nodest nodeen nodens []) pars []).enc)/\
  (∀(nodekind:Int) (nodevalue:Int) (nodetext:List UInt8) (nodest:Int) (nodeen:Int) (nodens:Int) (nodekids:List (Nd)),PV.agg [.int .i64 nodekind, .int .i64 nodevalue, .str nodetext, .int .i64 nodest, .int .i64 nodeen, .int .i64 nodens, .slice (nodekids.map Nd.enc) .none, .slice [] .none, .slice [] .none]=(At.mk (Nd.mk nodekind nodevalue nodetext nodest nodeen nodens nodekids) [] []).enc)/\
  (∀(nodekind:Int) (nodevalue:Int) (nodetext:List UInt8) (nodest:Int) (nodeen:Int) (nodens:Int),PV.agg [.int .i64 nodekind, .int .i64 nodevalue, .str nodetext, .int .i64 nodest, .int .i64 nodeen, .int .i64 nodens, .slice [] .none, .slice [] .none, .slice [] .none]=(At.mk (Nd.mk nodekind nodevalue nodetext nodest nodeen nodens []) [] []).enc)/\
  (∀t:At,At.mk t.node t.pars t.path=t)/\
  (∀(node:Nd) (pars:List (Nd)) (path:List (Int)),(At.mk node pars path).node=node)/\
  (∀(node:Nd) (pars:List (Nd)) (path:List (Int)),(At.mk node pars path).pars=pars)/\
  (∀(node:Nd) (pars:List (Nd)) (path:List (Int)),(At.mk node pars path).path=path):=
 ⟨λnodekind nodevalue nodetext nodest nodeen nodens nodekids pars path=>(At.enc_eq (At.mk (Nd.mk nodekind nodevalue nodetext nodest nodeen nodens nodekids) pars path)).symm,λnodekind nodevalue nodetext nodest nodeen nodens pars path=>(At.enc_eq (At.mk (Nd.mk nodekind nodevalue nodetext nodest nodeen nodens []) pars path)).symm,λnodekind nodevalue nodetext nodest nodeen nodens nodekids path=>(At.enc_eq (At.mk (Nd.mk nodekind nodevalue nodetext nodest nodeen nodens nodekids) [] path)).symm,λnodekind nodevalue nodetext nodest nodeen nodens nodekids pars=>(At.enc_eq (At.mk (Nd.mk nodekind nodevalue nodetext nodest nodeen nodens nodekids) pars [])).symm,λnodekind nodevalue nodetext nodest nodeen nodens path=>(At.enc_eq (At.mk (Nd.mk nodekind nodevalue nodetext nodest nodeen nodens []) [] path)).symm,λnodekind nodevalue nodetext nodest nodeen nodens pars=>(At.enc_eq (At.mk (Nd.mk nodekind nodevalue nodetext nodest nodeen nodens []) pars [])).symm,λnodekind nodevalue nodetext nodest nodeen nodens nodekids=>(At.enc_eq (At.mk (Nd.mk nodekind nodevalue nodetext nodest nodeen nodens nodekids) [] [])).symm,λnodekind nodevalue nodetext nodest nodeen nodens=>(At.enc_eq (At.mk (Nd.mk nodekind nodevalue nodetext nodest nodeen nodens []) [] [])).symm,At.eta,λ_ _ _=>rfl,λ_ _ _=>rfl,λ_ _ _=>rfl⟩
def At.W(t:At):Prop:=t.node.W/\t.pars.length*80<=2^47/\(∀u∈t.pars,u.W)/\t.path.length*8<=2^47
theorem qS:type_of%(aI @AtS (@AtF)):=aI @AtS (@AtF)
set_option maxRecDepth 4000
theorem qO:type_of%(aI @qC (aI @eX (aI @eY (aI @qM (aI @qG (aI @qZ (aI @qS (aI @Nd.enc_len (aI @Md.enc_len (aI @Sy.enc_len (aI @At.enc_len (@Dg.enc_len)))))))))))):=aI @qC (aI @eX (aI @eY (aI @qM (aI @qG (aI @qZ (aI @qS (aI @Nd.enc_len (aI @Md.enc_len (aI @Sy.enc_len (aI @At.enc_len (@Dg.enc_len)))))))))))
theorem ZQ{p:Prop}(h:p:=by first|exact .slice _ _ (λe he c hc=>by obtain⟨b,_,rfl⟩:=aTq.1 he;rw[aT2.1 hc];exact .str _) (λ_ e=>by cases e)|exact PQ _ z6|exact At.bel _ _|exact sU _ _|exact jY _ z6|exact Sy.bel _ _|exact sS _ _|exact jV _ z6|exact Md.bel _ _|exact Dg.bel _ _|exact sV _ _|exact jK _ _|exact Tk.bel _ _|exact St.bel _ _|exact Nd.bel _ _|exact cQ _ _|exact gV _ _|exact eD _ _|exact rO _ _|exact cR _|exact cT _|exact aZ.optr _ _ (by first| (simp;done)| (simp;omega))|exact aZ.int _ _|exact aZ.bool _|exact aZ.str _|exact aZ.nilp|exact aZ.nilfn|exact iC _ _|assumption):p:=h
theorem ZR{p:Prop}(h:p:=by repeat (first|exact kI.nil|refine kI.cons ZQ ?_)):p:=h
theorem ZH{p:Prop}(h:p:=by repeat (first|exact dF _|exact trivial|exact iX _| (refine jF.cons ?_ ?_)| (refine gY ZQ ?_))):p:=h
theorem Za{p:Prop}{X:Prop}(x:X)(h:X->p:=by intro z;simp only[kA,seval,aB,qO,tN,lS,aSr,z]<;>with_reducible rfl):p:=h x
theorem Zg{p:Prop}{X:Prop}(x:X)(h:X->p:=by intro z;simp only[jG,jO,jN,seval,aB,qO,tN,lS,aSr,z]<;>with_reducible rfl):p:=h x
theorem Zp{p:Prop}{X:Prop}(x:X)(h:X->p:=by intro z;simp only[jP,jO,jN,seval,aB,qO,tN,lS,aSr,z]<;>with_reducible rfl):p:=h x
theorem Zd{p:Prop}{X:Prop}(x:X)(h:X->p:=by intro z;simp only[jD,jO,jN,seval,aB,qO,tN,lS,aSr,z]<;>with_reducible rfl):p:=h x
theorem Zdr{p:Prop}{X:Prop}(x:X)(h:X->p:=by intro z;simp only[jD,jO,jN,seval,aB,qO,tN,lS,aSr,z]<;>first|done|rfl):p:=h x
theorem Zx{p:Prop}{X:Prop}(x:X)(h:X->p:=by intro z;simp only[jX,jO,jN,seval,aB,qO,tN,lS,aSr,z]<;>with_reducible rfl):p:=h x
theorem Zc{p:Prop}{X:Prop}(x:X)(h:X->p:=by intro z;simp only[kC,seval,aB,qO,tN,lS,aSr,z]<;>with_reducible rfl):p:=h x
theorem mL{p:Prop}{X:Prop}(x:X)(h:X->p:=by intro z;simp only[kC,seval,aB,qO,tN,lS,aSr,z]):p:=h x
theorem fV{p:Prop}{X:Prop}(x:X)(h:X->p:=by intro z;simp only[kC,seval,aB,qO,tN,lS,aSr,z]<;>first|done|rfl):p:=h x
theorem KU{p:Prop}{X:Prop}(x:X)(h:X->p:=by intro z;simp only[kC,seval,aB,qO,tN,lS,aSr,z]<;>rfl):p:=h x
theorem Ze{p:Prop}{X:Prop}(x:X)(h:X->p:=by intro z;simp only[kE,seval,aB,qO,tN,lS,aSr,z]<;>with_reducible rfl):p:=h x
theorem Zeo{p:Prop}{X:Prop}(x:X)(h:X->p:=by intro z;simp only[kE,seval,aB,qO,tN,lS,aSr,z]):p:=h x
theorem Zer{p:Prop}{X:Prop}(x:X)(h:X->p:=by intro z;simp only[kE,seval,aB,qO,tN,lS,aSr,z]<;>first|done|rfl):p:=h x
theorem Zl{p:Prop}{X:Prop}(x:X)(h:X->p:=by intro z;simp only[jL,jN,seval,aB,qO,tN,lS,aSr,z]<;>with_reducible rfl):p:=h x
theorem Zn{p:Prop}{X:Prop}(x:X)(h:X->p:=by intro z;simp only[jN,seval,aB,qO,tN,lS,aSr,z]<;>with_reducible rfl):p:=h x
theorem Zny{p:Prop}{X:Prop}(x:X)(h:X->p:=by intro z;simp only[jN,seval,aB,qO,tN,lS,aSr,z]<;>rfl):p:=h x
theorem Zt{p:Prop}{X:Prop}(x:X)(h:X->p:=by
  intro z
  repeat' (first|exact trivial|refine aI ?_ ?_)
  all_goals (first|rfl| (simp only[jN,seval,aB,qO,tN,lS,aSr,z]<;>first|done|with_reducible rfl))):p:=h x
theorem ZV{p:Prop}(h:p:=by repeat' (first|exact trivial|exact rfl|refine aI ?_ ?_)):p:=h
theorem Zf{p:Prop}{X:Prop}(x:X)(h:X->p:=by intro z;first|rfl| (simp only[jN,seval,aB,qO,tN,lS,aSr,z]<;>first|done|with_reducible rfl)):p:=h x
section
variable{P:Program}{N nb:Nat}{ops:Array Oper}{Q:dG}{A X:Prop}{T T':aD}{H H':aC}{l:List Oper}{o:Oper}
theorem ZE{id:Nat}(x:X)(h:Q .normal T' H')(t:eA P N nb (.region id ops false) Q T H->A:=by
  intro z
  repeat refine wS ?_
  exact z) (hs:X->AE P N ops.toList ops.toList (some (T,H))=some (T',H'):=by intro z;simp only[kA,seval,aB,qO,tN,lS,aSr,z]<;>with_reducible rfl) (hok:ops.toList.all (λo=>cK N o.op)=true:=by decide):A:=t (eE (hs x) hok h)
theorem uA{id:Nat}(h:Q .normal T' H')(t:eA P N nb (.region id ops false) Q T H->A:=by
  intro z
  repeat refine wS ?_
  exact z) (hs:AE P N ops.toList ops.toList (some (T,H))=some (T',H'):=by simp only[kA,seval,aB,qO,tN,lS,aSr]<;>with_reducible rfl) (hok:ops.toList.all (λo=>cK N o.op)=true:=by decide):A:=t (eE hs hok h)
theorem ZT{id:Nat}(n:Nat)(x:X)(h:bH P N nb ops Q (ops.toList.drop n) T' H')(t:eA P N nb (.region id ops false) Q T H->A:=by
  intro z
  repeat refine wS ?_
  exact z) (hs:X->AE P N ops.toList (ops.toList.take n) (some (T,H))=some (T',H'):=by intro z;simp only[kA,seval,aB,qO,tN,lS,aSr,z]<;>with_reducible rfl) (hok:(ops.toList.take n).all (λo=>cK N o.op)=true:=by decide):A:=t (wR (eT n (hs x) hok h))
theorem ZT0{id:Nat}(n:Nat)(h:bH P N nb ops Q (ops.toList.drop n) T' H')(t:eA P N nb (.region id ops false) Q T H->A:=by
  intro z
  repeat refine wS ?_
  exact z) (hs:AE P N ops.toList (ops.toList.take n) (some (T,H))=some (T',H'):=by simp only[kA,seval,aB,qO,tN,lS,aSr]<;>with_reducible rfl) (hok:(ops.toList.take n).all (λo=>cK N o.op)=true:=by decide):A:=t (wR (eT n hs hok h))
theorem ZU(n:Nat)(x:X)(h:bH P N nb ops Q (l.drop n) T' H')(hs:X->AE P N ops.toList (l.take n) (some (T,H))=some (T',H'):=by intro z;simp only[kA,seval,aB,qO,tN,lS,aSr,z]<;>with_reducible rfl)(hok:(l.take n).all (λo=>cK N o.op)=true:=by decide):bH P N nb ops Q l T H:=eT n (hs x) hok h
theorem ZX(x:X)(h:Q .normal T' H')(hs:X->AE P N ops.toList l (some (T,H))=some (T',H'):=by intro z;simp only[kA,seval,aB,qO,tN,lS,aSr,z]<;>with_reducible rfl)(hok:l.all (λo=>cK N o.op)=true:=by decide):bH P N nb ops Q l T H:=nO (hs x) hok h
theorem ZX0(h:Q .normal T' H')(hs:AE P N ops.toList l (some (T,H))=some (T',H'):=by simp only[kA,seval,aB,qO,tN,lS,aSr]<;>with_reducible rfl)(hok:l.all (λo=>cK N o.op)=true:=by decide):bH P N nb ops Q l T H:=nO hs hok h
theorem ZP{f:FuncId}{args:List PV}{r:PV}(x:X)(hgo:aP P f=true)(hc:aN P f args H λr' H''=>r'=r/\H''=H)(h:bH P N nb ops Q l (bU T o.dst r) H)(hcall:X->eO T o.op=some (f,args):=by intro z;simp only[kC,seval,aB,qO,tN,lS,aSr,z]<;>first|with_reducible rfl|rfl)(hw:X->aU ops.toList T N o=some true:=by intro z;simp only[kC,seval,aB,qO,tN,lS,aSr,z])(hok:cK N o.op=true:=by decide):bH P N nb ops Q (o::l) T H:=oP (hcall x) (hw x) hok hgo hc h
theorem ZP0{f:FuncId}{args:List PV}{r:PV}(hgo:aP P f=true)(hc:aN P f args H λr' H''=>r'=r/\H''=H)(h:bH P N nb ops Q l (bU T o.dst r) H)(hcall:eO T o.op=some (f,args):=by simp only[kC,seval,aB,qO,tN,lS,aSr]<;>first|with_reducible rfl|rfl)(hw:aU ops.toList T N o=some true:=by simp only[kC,seval,aB,qO,tN,lS,aSr])(hok:cK N o.op=true:=by decide):bH P N nb ops Q (o::l) T H:=oP hcall hw hok hgo hc h
theorem ZA{f:FuncId}{args:List PV}{R:PV->aC->Prop}(x:X)(hgo:aP P f=true)(hc:aN P f args H R)(h:∀r H',R r H'->bH P N nb ops Q l (bU T o.dst r) H')(hcall:X->eO T o.op=some (f,args):=by intro z;simp only[kC,seval,aB,qO,tN,lS,aSr,z]<;>first|with_reducible rfl|rfl)(hw:X->aU ops.toList T N o=some true:=by intro z;simp only[kC,seval,aB,qO,tN,lS,aSr,z])(hok:cK N o.op=true:=by decide):bH P N nb ops Q (o::l) T H:=oC (hcall x) (hw x) hok hgo hc h
theorem ZA0{f:FuncId}{args:List PV}{R:PV->aC->Prop}(hgo:aP P f=true)(hc:aN P f args H R)(h:∀r H',R r H'->bH P N nb ops Q l (bU T o.dst r) H')(hcall:eO T o.op=some (f,args):=by simp only[kC,seval,aB,qO,tN,lS,aSr]<;>first|with_reducible rfl|rfl)(hw:aU ops.toList T N o=some true:=by simp only[kC,seval,aB,qO,tN,lS,aSr])(hok:cK N o.op=true:=by decide):bH P N nb ops Q (o::l) T H:=oC hcall hw hok hgo hc h
theorem ZI{c:Operand}{c1 c2:Code}{b:Bool}(x:X)(h1:b=true->eA P N nb c1 Q T H)(h2:b=false->eA P N nb c2 Q T H)(t:eA P N nb (.cond c c1 c2) Q T H->A:=by
  intro z
  repeat refine wS ?_
  exact z) (hc:aQ N c=true:=by rfl) (hb:X->bT T c= .bool b:=by intro z;simp only[jN,seval,aB,qO,tN,lS,aSr,z]<;>with_reducible rfl):A:=t (wC hc (hb x) h1 h2)
theorem ZI0{c:Operand}{c1 c2:Code}{b:Bool}(h1:b=true->eA P N nb c1 Q T H)(h2:b=false->eA P N nb c2 Q T H)(t:eA P N nb (.cond c c1 c2) Q T H->A:=by
  intro z
  repeat refine wS ?_
  exact z) (hc:aQ N c=true:=by rfl) (hb:bT T c= .bool b:=by simp only[jN,seval,aB,qO,tN,lS,aSr]<;>with_reducible rfl):A:=t (wC hc hb h1 h2)
theorem ZF{c:Operand}{c1 c2:Code}(x:X)(h:eA P N nb c2 Q T H)(t:eA P N nb (.cond c c1 c2) Q T H->A:=by
  intro z
  repeat refine wS ?_
  exact z) (hc:aQ N c=true:=by rfl) (hb:X->bT T c= .bool false:=by intro z;simp only[jN,seval,aB,qO,tN,lS,aSr,z]<;>with_reducible rfl):A:=t (wF hc (hb x) h)
theorem ZG{c:Operand}{c1 c2:Code}(x:X)(h:eA P N nb c1 Q T H)(t:eA P N nb (.cond c c1 c2) Q T H->A:=by
  intro z
  repeat refine wS ?_
  exact z) (hc:aQ N c=true:=by rfl) (hb:X->bT T c= .bool true:=by intro z;simp only[jN,seval,aB,qO,tN,lS,aSr,z]<;>with_reducible rfl):A:=t (jJ hc (hb x) h)
theorem ZF0{c:Operand}{c1 c2:Code}(h:eA P N nb c2 Q T H)(t:eA P N nb (.cond c c1 c2) Q T H->A:=by
  intro z
  repeat refine wS ?_
  exact z) (hc:aQ N c=true:=by rfl) (hb:bT T c= .bool false:=by simp only[jN,seval,aB,qO,tN,lS,aSr]<;>with_reducible rfl):A:=t (wF hc hb h)
theorem ZL(live:List Nat){m:List (Nat×PV)}{c:Code}(x:X)(h:eA P N nb c Q (uD m) H)(hl:X->live.map (λd=>(d,T d))=m:=by intro z;simp only[jN,seval,aB,qO,tN,lS,aSr,z]<;>with_reducible rfl):eA P N nb c Q T H:=wL live (hl x) h
theorem ZL0(live:List Nat){m:List (Nat×PV)}{c:Code}(h:eA P N nb c Q (uD m) H)(hl:live.map (λd=>(d,T d))=m:=by simp only[jN,seval,aB,qO,tN,lS,aSr]<;>with_reducible rfl):eA P N nb c Q T H:=wL live hl h
theorem tL{id:Nat}{F:aD}{G':Nat->Bool}(x:X)(h:Q .normal F H')(t:eA P N nb (.region id ops false) Q T H->A:=by
  intro z
  repeat refine wS ?_
  exact z) (hs:X->NO P N ops.toList ops.toList (some (T,DS,H))=some (T',G',H'):=by intro z;simp only[jG,jO,jN,seval,aB,qO,tN,lS,aSr,z]<;>with_reducible rfl) (hok:ops.toList.all (λo=>cK N o.op)=true:=by decide) (hf:fK T' G' F:=by repeat (first|exact fK.base _|with_reducible apply fK.keep|apply fK.drop)):A:=t (vG (hs x) hok hf h)
theorem OH(n:Nat){G G':Nat->Bool}(x:X)(h:bH P N nb ops Q (l.drop n) (eZ (.tup []) T' G') H')(hs:X->NO P N ops.toList (l.take n) (some (T,G,H))=some (T',G',H'):=by intro z;simp only[jG,jO,jN,seval,aB,qO,tN,lS,aSr,z]<;>with_reducible rfl)(hok:(l.take n).all (λo=>cK N o.op)=true:=by decide):bH P N nb ops Q l (eZ (.tup []) T G) H:=FB n (hs x) hok h
theorem ZgX{F:aD}{G G':Nat->Bool}(x:X)(h:Q .normal F H')(hs:X->NO P N ops.toList l (some (T,G,H))=some (T',G',H'):=by intro z;simp only[jG,jO,jN,seval,aB,qO,tN,lS,aSr,z]<;>with_reducible rfl)(hok:l.all (λo=>cK N o.op)=true:=by decide)(hf:fK T' G' F:=by repeat (first|exact fK.base _|with_reducible apply fK.keep|apply fK.drop)):bH P N nb ops Q l (eZ (.tup []) T G) H:=aB6 (hs x) hok hf h
theorem AZ(n:Nat){k:Nat}{G G':Nat->Bool}(x:X)(h:DP P N ops Q (k+(l.take n).length) (l.drop n) (eZ (.tup []) T' G') H')(hs:X->MH P N ops.toList (l.take n) (some (T,G,H))=some (T',G',H'):=by intro z;simp only[jP,jO,jN,seval,aB,qO,tN,lS,aSr,z]<;>with_reducible rfl)(hok:(l.take n).all (λo=>cK N o.op)=true:=by decide):DP P N ops Q k l (eZ (.tup []) T G) H:=vQ n (hs x) hok h
theorem FM{k:Nat}{F:aD}{G G':Nat->Bool}(x:X)(h:Q .normal F H')(hs:X->MH P N ops.toList l (some (T,G,H))=some (T',G',H'):=by intro z;simp only[jP,jO,jN,seval,aB,qO,tN,lS,aSr,z]<;>with_reducible rfl)(hok:l.all (λo=>cK N o.op)=true:=by decide)(hf:fK T' G' F:=by repeat (first|exact fK.base _|with_reducible apply fK.keep|apply fK.drop)):DP P N ops Q k l (eZ (.tup []) T G) H:=xN (hs x) hok hf h
theorem ZpS{k:Nat}{G:Nat->Bool}(x:X)(h:DP P N ops Q (k+1) l (eZ (.tup []) (bU T o.dst (.tup [])) (vV G o.dst false)) H)(hc:X->dV ops.toList T G N o=some false:=by intro z;simp only[kE,seval,aB,qO,tN,lS,aSr,z]<;>with_reducible rfl):DP P N ops Q k (o::l) (eZ (.tup []) T G) H:=SC (hc x) h
theorem ZgS{G:Nat->Bool}(x:X)(h:bH P N nb ops Q l (eZ (.tup []) (bU T o.dst (.tup [])) (vV G o.dst false)) H)(hc:X->dV ops.toList T G N o=some false:=by intro z;simp only[kE,seval,aB,qO,tN,lS,aSr,z]<;>with_reducible rfl):bH P N nb ops Q (o::l) (eZ (.tup []) T G) H:=DA (hc x) h
theorem ZpK{k:Nat}{G:Nat->Bool}{c:Bool}{f:FuncId}{args:List PV}{r:PV}(x:X)(hgo:aP P f=true)(hp:c=true->aN P f args H λr' H''=>r'=r/\H''=H)(h:DP P N ops Q (k+1) l (eZ (.tup []) (bU T o.dst r) (vV G o.dst c)) H)(hcall:X->eO T o.op=some (f,args):=by intro z;simp only[kE,seval,aB,qO,tN,lS,aSr,z]<;>first|with_reducible rfl|rfl)(hc:X->dV ops.toList T G N o=some c:=by intro z;simp only[kE,seval,aB,qO,tN,lS,aSr,z]<;>with_reducible rfl)(hg:X->o.op.operands.toList.all (zH c G)=true:=by intro z;simp only[kE,seval,aB,qO,tN,lS,aSr,z])(hok:cK N o.op=true:=by decide):DP P N ops Q k (o::l) (eZ (.tup []) T G) H:=vX (hcall x) (hc x) (hg x) hok hgo hp h
theorem RN{G:Nat->Bool}{c:Bool}{f:FuncId}{args:List PV}{r:PV}(x:X)(hgo:aP P f=true)(hp:c=true->aN P f args H λr' H''=>r'=r/\H''=H)(h:bH P N nb ops Q l (eZ (.tup []) (bU T o.dst r) (vV G o.dst c)) H)(hcall:X->eO T o.op=some (f,args):=by intro z;simp only[kE,seval,aB,qO,tN,lS,aSr,z]<;>first|with_reducible rfl|rfl)(hc:X->dV ops.toList T G N o=some c:=by intro z;simp only[kE,seval,aB,qO,tN,lS,aSr,z]<;>with_reducible rfl)(hg:X->o.op.operands.toList.all (zH c G)=true:=by intro z;simp only[kE,seval,aB,qO,tN,lS,aSr,z])(hok:cK N o.op=true:=by decide):bH P N nb ops Q (o::l) (eZ (.tup []) T G) H:=pP (hcall x) (hc x) (hg x) hok hgo hp h
end
theorem dT:∀h:Decidable True, @decide True h=true:= @decide_true
theorem bN:(!true)=false:=rfl
theorem bF:(!false)=true:=rfl
theorem dZ:∀l:List UInt8,l.drop 0=l:=λ_=>rfl
theorem iT:(∀(h:Decidable True) (a b:PV), @ite PV True h a b=a)/\(∀(h:Decidable True) (a b:Nat), @ite Nat True h a b=a)/\(∀(h:Decidable True) (a b:Option Obj), @ite (Option Obj) True h a b=a):=⟨λ_ _ _=>if_true ..,λ_ _ _=>if_true ..,λ_ _ _=>if_true ..⟩
abbrev zE(n:Nd)(c:PV):AObj:=.row [.int .i64 n.kind, .int .i64 n.value, .str n.text, .int .i64 n.st, .int .i64 n.en, .int .i64 n.ns,c]
abbrev CE(n:Nd):AObj:=zE n (.slice (n.kids.map Nd.enc) .none)
abbrev BL:AObj:=.row [.int .i64 0, .int .i64 0, .str [], .int .i64 0, .int .i64 0, .int .i64 0, .slice [] .full]
set_option maxRecDepth 4000
theorem xQ{p:Prop}(h:p:=by first|exact LD _ _ _ (λ_ h=>by cases h;first| (simp;done)| (simp;omega))|exact Tk.bel _ _|exact St.bel _ _|exact Ed.bel _ _|exact Cd.bel _ _|exact cQ _ _|exact gV _ _|exact jR _ _|exact bel_Cd _ _|exact eD _ _|exact cR _|exact cT _|exact aZ.optr _ _ (by first| (simp;done)| (simp;omega))|exact aZ.int _ _|exact aZ.bool _|exact aZ.str _|exact aZ.nilp|exact aZ.nilfn|exact iC _ _|assumption):p:=h
theorem xR{p:Prop}(h:p:=by repeat (first|exact kI.nil|refine kI.cons xQ ?_)):p:=h
theorem xH{p:Prop}(h:p:=by repeat (first|exact dF _|exact trivial|exact iX _| (refine jF.cons ?_ ?_)| (refine gY xQ ?_))):p:=h
section
variable{P:Program}{N nb:Nat}{ops:Array Oper}{Q:dG}{A X:Prop}{T T':aD}{H H':aC}{o:Oper}{f:FuncId}{args:List PV}{R:PV->aC->Prop}
theorem qN(x:X)(hc:aN P f args H R)(h:∀r H',R r H'->Q .normal (bU T o.dst r) H')(hcall:X->eO T o.op=some (f,args):=by intro z;simp only[kC,seval,aB,qC,z]<;>first|with_reducible rfl|rfl)(hw:X->aU ops.toList T N o=some true:=by intro z;simp only[kC,seval,aB,qC,z])(hok:cK N o.op=true:=by decide)(hgo:aP P f=true:=by kernel_rfl):bH P N nb ops Q [o] T H:=oC (hcall x) (hw x) hok hgo hc λr H' k=>oN (h r H' k)
theorem qW{id:Nat}(n:Nat)(x:X)(hc:aN P f args H' R)(h:∀r H',R r H'->Q .normal (bU T' o.dst r) H')(t:eA P N nb (.region id ops false) Q T H->A:=by
  intro z
  repeat refine wS ?_
  exact z) (hs:X->AE P N ops.toList (ops.toList.take n) (some (T,H))=some (T',H'):=by intro z;simp only[kA,seval,aB,qC,z]<;>with_reducible rfl) (ho:ops.toList.drop n= [o]:=by rfl) (hok:(ops.toList.take n).all (λo=>cK N o.op)=true:=by decide) (hcall:X->eO T' o.op=some (f,args):=by intro z;simp only[kC,seval,aB,qC,z]<;>first|with_reducible rfl|rfl) (hw:X->aU ops.toList T' N o=some true:=by intro z;simp only[kC,seval,aB,qC,z]) (hk:cK N o.op=true:=by decide) (hgo:aP P f=true:=by kernel_rfl):A:=
 t (wR (eT n (hs x) hok (ho▸qN x hc h hcall hw hk hgo)))
end
theorem cQ(n:Nat)(us:List (List UInt8)):aZ n (.slice (us.map PV.str) .none):=.slice _ _ (λe he c hc=>by
 obtain⟨b,_,rfl⟩:=aTq.1 he;simp only[PV.cells,aT2]at hc;subst hc;exact .str _) z6
def BE(k:Int):Bool:=decide (k=101)||decide (k=102)
def aEf:Tk:=⟨100,[]⟩
def TW:List Tk->List Tk
 | []=> []
 |t::ts=>if BE t.kind=true then TW ts else t::ts
def aG(toks:List Tk)(pos:Nat):Tk:=(TW (toks.drop pos)).headD aEf
def eI(t:Tk)(texts:List (List UInt8)):Bool:=(decide (t.kind=104)||decide (t.kind=107))&&texts.any λx=>decide (t.text=x)
theorem oY{toks:List Tk}{j:Nat}(h:toks.length<=j):aG toks j=aEf:=by
 unfold aG;rw[List.drop_eq_nil_of_le h];rfl
theorem xK{toks:List Tk}{j:Nat}(h:j<toks.length)(ht:BE toks[j].kind=true):aG toks j=aG toks (j+1):=by
 unfold aG;rw[aUc h];simp only[TW,ht,if_true]
theorem rV{toks:List Tk}{j:Nat}(h:j<toks.length)(ht:BE toks[j].kind=false):aG toks j=toks[j]:=by
 unfold aG;rw[aUc h];simp only[TW,ht,aTc,if_false,List.headD_cons]
end Go.Abs
