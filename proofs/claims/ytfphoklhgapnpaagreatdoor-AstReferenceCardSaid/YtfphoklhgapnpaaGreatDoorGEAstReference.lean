/- Part 10 of a proof of the law AstReference: Go data as trees, the walks of the functions that the law reaches, the plain laws. -/
import Derived.Test.YtfphoklhgapnpaaGreatDoorGDAstReference
import Derived.Laws.StructEq
open List renaming all_cons->aSd,all_eq_true->aTr,append_assoc->aUa,append_nil->aT4,cons_append->aSg,drop_eq_getElem_cons->aUc,getD_eq_getElem?_getD->aTe,getElem?_append_left->aSv,getElem?_append_right->aSw,getElem?_eq_getElem->aTd,getElem?_eq_none->aSx,getElem?_set_ne->aS0,getElem?_set_self->aSz,getElem_cons_zero->aSj,getElem_mem->aTk,length_append->aTi,length_cons->aS2,length_map->aSr,map_nil->aT6,mem_append->aTs,mem_append_left->aUg,mem_cons->aTv,mem_map->aTq,mem_singleton->aT2,nil_append->aT1,take_append_drop->aT3,take_length->aUd,take_succ_eq_append_getElem->aT8
open Nat renaming le_refl->aSl,le_trans->aSm,lt_of_lt_of_le->aSn,lt_or_ge->aSk,zero_add->aTh,zero_le->aTn
open Go.Sem renaming run_bind->aS4,run_pure->aS7
open Bool renaming and_eq_true->aSe,eq_iff_iff->aTu,false_eq_true->aTc,not_false->aTp
open Go.Result renaming andThen_ok->aS5
open Int renaming le_refl->aUi
open Array renaming getD_eq_getD_getElem?->aSo,getElem?_eq_getElem->aSt
open Option renaming bind_some->aSy,map_some->aS1
set_option linter.unusedSectionVars false
set_option linter.unnecessarySimpa false
set_option linter.unusedVariables false
set_option linter.unusedSimpArgs false
set_option maxRecDepth 4000
namespace Go.Abs
open Go.Proofs
structure P2 where
 a:Int
 b:Int
def P2.enc(p:P2):PV:=.agg [.int .i64 p.a, .int .i64 p.b]
theorem P2.enc_len(p:P2):p.enc.cells.length=2:=rfl
theorem qR:∀us:List Nd,us.length<=cO us
 | []=>aSl _
 |u::us=>by
  have:=qR us;have:0<u.size:=by cases u;simp only[Nd.size];omega
  rw[cO,aS2];omega
def CS(ic it:Nat)(m:Int)(ss:List Sy)(H:aC):Prop:=H[ic]? =some (.row [.int .i64 m, .slice (ss.map Sy.enc) (.tok it)])/\H[it]? =some (.buf ss.length 6)/\ic≠it
theorem CS.app{ic it:Nat}{m:Int}{ss:List Sy}{H:aC}(h:CS ic it m ss H)(L:aC):CS ic it m ss (H++L):=⟨aA h.1 L,aA h.2.1 L,h.2.2⟩
theorem Fr.split{F':List Nat}{H H':aC}(a:Fr [] F' H H'):∃L,H'=H++L:=by
 refine⟨H'.drop H.length,List.ext_getElem? λi=> ?_⟩;rcases aSk i H.length with h|h
 ·rw[aSv h];exact a.same i h z6
 ·rw[aSw h,List.getElem?_drop];congr 1;omega
inductive FT where
 |int|str|bool
def FT.ty(P:Program):FT->TypeId->Prop
 | .int,t=>P.underlying t=some (.int .i64)
 | .str,t=>P.underlying t=some .string
 | .bool,t=>P.underlying t=some .bool
def FT.fit:FT->PV->Bool
 | .int, .int .i64 _=>true
 | .str, .str _=>true
 | .bool, .bool _=>true
 |_,_=>false
def AQ:PV->PV->Bool
 | .int _ a, .int _ b=>decide (a=b)
 | .str a, .str b=>decide (a=b)
 | .bool a, .bool b=>decide (a=b)
 |_,_=>false
def gN:List PV->List PV->Bool
 | [],[]=>true
 |x::xs,y::ys=>AQ x y&&gN xs ys
 |_,_=>false
structure zJ(P:Program)(t:TypeId)(ks:List FT):Prop where
 ex:∃fs:List Field,P.underlying t=some (.struct fs.toArray)/\fs.length=ks.length/\∀(i:Nat) (h:i<fs.length) (h2:i<ks.length),fs[i].name≠ "_" /\fs[i].offset=i/\(ks[i]).ty P fs[i].type
 held:P.stoodInHeld t=false
 gu:P.eqGuardType P.depth t=false
section
variable{P:Program}{V:cS}
theorem OO{k:FT}{t:TypeId}(h:k.ty P t)(w:World):(isAgg t).run P w= .ok false w:=by
 cases k<;>(unfold FT.ty at h;unfold isAgg;simp only[aS4,run_underlying h,aS5];rfl)
theorem HN{k:FT}{t:TypeId}(h:k.ty P t){xs:Array Value}{i:Nat}(hi:i<xs.size)(w:World):(part t xs i).run P w= .ok (xs.getD i undef) w:=by
 unfold part;simp only[aS4,OO h,aS5,aTc,if_false,aSo,aSt hi];rfl
theorem aC9{k:FT}{t:TypeId}(h:k.ty P t){v v':Value}{p p':PV}(hv:aL V v p)(hv':aL V v' p')(hf:k.fit p=true)(hf':k.fit p'=true)(d:Nat)(w:World):
  (Op.equalIn (d+1) t v v').run P w= .ok (AQ p p') w:=by
 cases k with
 |int=>
  cases hv with
  |int k n=>
   cases hv' with
   |int k' n'=>
    have e:k= .i64:=by cases k<;>first|rfl|simp[FT.fit]at hf
    have e':k'= .i64:=by cases k'<;>first|rfl|simp[FT.fit]at hf'
    subst e;subst e';rw[run_equalIn_int w d t _ _ _ _ h];have e:(n==n')=decide (n=n'):=by rw[aTu];simp
    rw[e];rfl
   |_=>simp[FT.fit]at hf'
  |_=>simp[FT.fit]at hf
 |str=>
  cases hv with
  |str s=>
   cases hv' with
   |str s'=>
    rw[run_equalIn_string w d t _ _ h];congr 1;show(s.toList==s'.toList)=decide (s.data.toList=s'.data.toList);rw[ByteArray.toList_eq,ByteArray.toList_eq,aTu];simp
   |_=>simp[FT.fit]at hf'
  |_=>simp[FT.fit]at hf
 |bool=>
  cases hv with
  |bool b=>
   cases hv' with
   |bool b'=>
    rw[run_equalIn_bool w d t _ _ h];have e:(b==b')=decide (b=b'):=by rw[aTu];simp
    rw[e];rfl
   |_=>simp[FT.fit]at hf'
  |_=>simp[FT.fit]at hf
theorem GV{xs ys:Array Value}{ps qs:List PV}(hx:aL V (.agg xs) (.agg ps))(hy:aL V (.agg ys) (.agg qs))(d:Nat)(w:World):∀(fs:List Field) (ks:List FT) (off:Nat),fs.length=ks.length->
  (∀(i:Nat) (h:i<fs.length) (h2:i<ks.length),fs[i].name≠ "_" /\fs[i].offset=off+i/\(ks[i]).ty P fs[i].type)->ps.length=off+fs.length->qs.length=off+fs.length->
  (∀(i:Nat) (h:i<ks.length) (h1:off+i<ps.length) (h2:off+i<qs.length),(ks[i]).fit ps[off+i]=true/\(ks[i]).fit qs[off+i]=true)->
  (Op.eqFields (d+1) xs ys fs).run P w= .ok (gN (ps.drop off) (qs.drop off)) w
 | [],ks,off,hl,_,hp,hq,_=>by
  rw[List.drop_eq_nil_of_le (by simp at hp;omega),List.drop_eq_nil_of_le (by simp at hq;omega)];rfl
 |f::fs,[],off,hl,_,_,_,_=>by simp at hl
 |f::fs,k::ks,off,hl,hF,hp,hq,hfit=>by
  have h0:=hF 0 z6 z6;simp only[aSj,Nat.add_zero]at h0;obtain⟨n0,o0,t0⟩:=h0;have lp:off<ps.length:=by simp at hp;omega
  have lq:off<qs.length:=by simp at hq;omega
  have ff:=hfit 0 z6 lp lq;simp only[aSj,Nat.add_zero]at ff;obtain⟨sx,rx⟩:xs.size=ps.length/\aL V (xs.getD off undef) ps[off]:=by cases hx with|agg _ _ a b=>exact⟨a,b off lp⟩
  obtain⟨sy,ry⟩:ys.size=qs.length/\aL V (ys.getD off undef) qs[off]:=by cases hy with|agg _ _ a b=>exact⟨a,b off lq⟩
  have ih:=GV hx hy d w fs ks (off+1) (by simpa using hl) (λi h h2=>by
   have:=hF (i+1) (by simp;omega) (by simp;omega);simp only[List.getElem_cons_succ]at this;rw[show off+1+i=off+(i+1)by omega];exact this) (by simp at hp;omega) (by simp at hq;omega) (λi h h1 h2=>by
   have:=hfit (i+1) (by simp;omega) z8 z8;simp only[List.getElem_cons_succ]at this;have e:off+1+i=off+(i+1):=z8
   simp only[e];exact this)
  rw[aUc lp,aUc lq];simp only[Op.eqFields,if_pos n0,aS4,o0,HN t0 (show off<xs.size by omega),HN t0 (show off<ys.size by omega),aS5,aC9 t0 rx ry ff.1 ff.2,Sem.run_ite,aS7,ih,gN];cases AQ ps[off] qs[off]<;>simp
theorem EB{t:TypeId}{ks:List FT}(F:zJ P t ks){xs ys:Array Value}{ps qs:List PV}(hx:aL V (.agg xs) (.agg ps))(hy:aL V (.agg ys) (.agg qs))(hp:ps.length=ks.length)(hq:qs.length=ks.length)
  (fp:∀(i:Nat) (h:i<ks.length) (h1:i<ps.length) (h2:i<qs.length),(ks[i]).fit ps[i]=true/\(ks[i]).fit qs[i]=true) (w:World):(Op.equal t (.agg xs) (.agg ys)).run P w= .ok (gN ps qs) w:=by
 obtain⟨fs,ut,hl,hF⟩:=F.ex;have hf:P.fieldsOf t=fs.toArray:=by unfold Program.fieldsOf;rw[ut]
 show(Op.equalIn (9999+1) t _ _).run P w=_;rw[run_equalIn_struct w 9999 t _ _ (by rw[hf];exact ut) F.held,hf];have:=GV (P:=P) hx hy 9998 w fs ks 0 hl (λi h h2=>by rw[aTh];exact hF i h h2) z8 z8 (λi h h1 h2=>by simp only[aTh];exact fp i h z8 z8);simpa using this
def uB:List FT->List PV->Bool
 | [],[]=>true
 |k::ks,p::ps=>k.fit p&&uB ks ps
 |_,_=>false
theorem mZ:∀ {ks:List FT} {ps:List PV},uB ks ps=true->ps.length=ks.length
 | [],[],_=>rfl
 | [],_::_,h=>by cases h
 |_::_,[],h=>by cases h
 |k::ks,p::ps,h=>by simp only[uB,aSe]at h;simp[mZ h.2]
theorem pJ:∀ {ks:List FT} {ps:List PV},uB ks ps=true->∀(i:Nat) (h:i<ks.length) (h1:i<ps.length),(ks[i]).fit ps[i]=true
 | [],_,_=>λi h=>by simp at h
 |_::_,[],h=>by cases h
 |k::ks,p::ps,h=>λi h1 h2=>by
  simp only[uB,aSe]at h;cases i with
  |zero=>exact h.1
  |succ i=>exact pJ h.2 i (by simpa using h1) (by simpa using h2)
end
section
variable{P:Program}{N nb:Nat}{ops:Array Oper}{Q:dG}
end
theorem CO{P:Program}{N:Nat}{ops:Array Oper}{Q:dG}{k:Nat}{o:Oper}{l:List Oper}{T:aD}{G:Nat->Bool}{H:aC}{t y':TypeId}{x y:Operand}{ks:List FT}{ps qs:List PV}(F:zJ P t ks)
  (hop:o.op= .binOp .neq t x y y') (hx:bT T x= .agg ps) (hy:bT T y= .agg qs) (fx:uB ks ps=true) (fy:uB ks qs=true) (hc:dV ops.toList T G N o=some true) (hg:o.op.operands.toList.all (zH true G)=true) (okx:aQ N x=true) (oky:aQ N y=true)
  (h:DP P N ops Q (k+1) l (eZ (.tup []) (bU T o.dst (.bool (!gN ps qs))) (vV G o.dst true)) H):DP P N ops Q k (o::l) (eZ (.tup []) T G) H:=by
 refine rP hc hg (λE A ho he=> ?_) h;have rx:=he x (by rw[hop];simp[Op.operands]) okx;have ry:=he y (by rw[hop];simp[Op.operands]) oky;rw[hx]at rx;rw[hy]at ry;generalize hvx:A.eval x=vx at rx;generalize hvy:A.eval y=vy at ry;cases rx with
 |agg xs _ a1 a2=>
  cases ry with
  |agg ys _ b1 b2=>
   have g:∀w,(eqGuard .neq t x y (.agg xs) (.agg ys)).run P w= .ok () w:=λw=>by
    unfold eqGuard;simp only[aS4,run_program,aS5,F.gu,aTp,if_true,Sem.run_ite,aS7]
    split<;>rfl
   refine⟨.bool (!gN ps qs), ?_, .bool _⟩;unfold execOp;rw[hop];simp only[aS4,hvx,hvy,g,aS5,binOp,EB F (.agg xs _ a1 a2) (.agg ys _ b1 b2) (mZ fx) (mZ fy) (λi h h1 h2=>⟨pJ fx i h h1,pJ fy i h h2⟩),aS7]
theorem zX{i:TI}{fr:Nat}{H:aC}{es xs:List PV}{id:Nat}{tl:jM}(hH:H[id]? =some (.buf es.length i.sz))(hne:xs≠ [])(hb:(es.length+xs.length)*i.bytes<=2^47)(hm:es.length+xs.length<=maxLen)
  (he:∀e∈es,e.cells.length=i.sz) (hx:∀e∈xs,e.cells.length=i.sz/\e.cells.all PV.isCell=true) (hs:0<i.sz):
  dQ i fr H (.slice es (.tok id)) (.slice xs tl)=some (.slice (es++xs) (.tok id),some (id, .buf (es.length+xs.length) i.sz)):=by
 unfold dQ;simp only[if_neg hne];rw[if_pos ⟨hb,hm,he,hx,hs⟩];simp only[hH,and_self,if_true]
theorem zB:∀(us:List Nd) (i:Nat),cO (us.take i)<=cO us
 | [],i=>z6
 |u::us,0=>by simp[cO]
 |u::us,i+1=>by rw[List.take_succ_cons,cO,cO];have:=zB us i;omega
mutual
def wI:St->List Tk
 | .mk k t ch=>if t= []then tH ch else [⟨k,t⟩]
def tH:List St->List Tk
 | []=> []
 |s::ss=>wI s++tH ss
end
theorem vT:∀a b,tH (a++b)=tH a++tH b
 | [],b=>by simp[tH]
 |t::a,b=>by simp only[aSg,tH,vT a b,aUa]
def neT(t:Tk):Bool:= !decide (t.text= [])
def XE(toks:List Tk)(i j:Nat):List Tk:=((toks.drop i).take (j-i)).filter neT
theorem vF(toks:List Tk)(i:Nat):XE toks i i= []:=by simp[XE]
theorem KR(toks:List Tk){i j k:Nat}(h1:i<=j)(h2:j<=k):XE toks i k=XE toks i j++XE toks j k:=by
 unfold XE;rw[<-List.filter_append];congr 1;rw[show k-i=(j-i)+(k-j)by omega,List.take_add,List.drop_drop,show i+(j-i)=j by omega]
theorem aE6(toks:List Tk){i:Nat}(h:i<toks.length):XE toks i (i+1)=if toks[i].text= []then []else [toks[i]]:=by
 have e:(toks.drop i).take (i+1-i)= [toks[i]]:=by rw[aUc h,show i+1-i=1 by omega];rfl
 unfold XE;rw[e]
 by_cases c:toks[i].text= []<;>simp[neT,c]
def OG(k:Int):Bool:=decide (k=7)||decide (k=12)||decide (k=13)
def okC(k c:Int):Bool:=if c=13 then decide (k=12)else if c=12 then decide (k=3)||decide (k=9)||decide (k=38)else if c=7 then decide (k=1)else true
def SW(k:Int):Bool:=decide (k=101)||decide (k=102)
def zF:List St->Bool
 | []=>false
 |c::cs=>if SW c.kind=true then zF cs else decide (100<=c.kind)&& !decide (c.text= [])&& !decide (c.kind=108/\c.text= [])
def okK(k c:Int):Bool:= !(decide (c=104)&&(decide (k=39)||decide (k=40)))
def PH(k:Int)(t:List UInt8)(ch:List St):Bool:=if k<100 then decide (t= [])&&ch.all (λc=>okK k c.kind)else ch.isEmpty&&(decide (k=108)|| !decide (t= []))
def okN(k:Int)(t:List UInt8)(ch:List St):Bool:=ch.all (λc=>okC k c.kind)&&(!decide (k=60)||ch.any λc=>decide (c.kind<100))&&(!decide (k=7)||zF ch)&&((!decide (k=103)|| !decide (t= []))&&PH k t ch)
mutual
def wO:St->Bool
 | .mk k t ch=>okN k t ch&&VY ch
def VY:List St->Bool
 | []=>true
 |s::ss=>wO s&&VY ss
end
theorem CM:∀(l:List St),VY l=l.all wO
 | []=>rfl
 |s::ss=>by simp only[VY,aSd,CM ss]
theorem vW{s:PS}{t:St}{f:vU}{fs:List vU}(h:s.stack=f::fs)(hl:f.kids.length<iB):qQ t s=some {s with stack:=⟨f.kind,f.kids++ [t]⟩::fs}:=by
 unfold qQ;rw[h];simp only;rw[if_pos hl]
def CN(toks:List Tk):Prop:=∀t∈toks,t.text≠ []/\100<t.kind
def aAb(k:Int):List Int:=if k=12 then [13]else if k=3\/k=9\/k=38 then [12]else if k=1 then [7]else []
theorem aFh{k c:Int}(h:OG c=true->c∈aAb k):okC k c=true:=by
 unfold okC
 by_cases h13:c=13
 ·have:=h (by rw[h13];rfl);unfold aAb at this;rw[if_pos h13]
  split at this
  ·simp[*]
  ·split at this
   ·rw[h13]at this;simp at this
   ·split at this<;> · rw[h13]at this;simp at this
 rw[if_neg h13]
 by_cases h12:c=12
 ·have:=h (by rw[h12];rfl);unfold aAb at this;rw[if_pos h12]
  split at this
  ·rw[h12]at this;simp at this
  ·split at this
   ·rename_i q;rcases q with q|q|q<;>simp[q]
   ·split at this<;> · rw[h12]at this;simp at this
 rw[if_neg h12]
 by_cases h7:c=7
 ·have:=h (by rw[h7];rfl);unfold aAb at this;rw[if_pos h7]
  split at this
  ·rw[h7]at this;simp at this
  ·split at this
   ·rw[h7]at this;simp at this
   ·split at this
    ·simp[*]
    ·cases this
 rw[if_neg h7]
def spj(k:Int):Bool:=OG k||decide (k=104)
def GL(k:Int):List Int:=aAb k++if k=39\/k=40 then []else [104]
theorem aLr{k c:Int}(h:spj c=true->c∈GL k):okC k c=true:=aFh λq=>by
 have h1:=h (by unfold spj;rw[q];rfl);unfold GL at h1;rcases aTs.1 h1 with h2|h2
 ·exact h2
 ·split at h2
  ·cases h2
  ·rw[aT2.1 h2]at q;cases q
theorem aLm{k c:Int}(h:spj c=true->c∈GL k):okK k c=true:=by
 by_cases h1:c=104
 ·subst h1;have h2:=h rfl
  by_cases h3:k=39
  ·subst h3;exact absurd h2 z7
  by_cases h4:k=40
  ·subst h4;exact absurd h2 z7
  simp[okK,h3,h4]
 ·simp[okK,h1]
theorem XM{k:Int}(h1:k≠39)(h2:k≠40):104∈GL k:=by
 unfold GL;rw[if_neg z8];simp
theorem IZ{k:Int}(h:k≠104):spj k=OG k:=by simp[spj,h]
inductive Cq where
 |at(xs:List (List UInt8))|kd (k:Int)|ap|tx (t:List UInt8)|no (c:Cq)|and (c d:Cq)|fl|bo (b:Bool)
def Cq.ev(toks:List Tk)(s:PS):Cq->Bool
 | .at xs=>eI (aG toks s.pos) xs
 | .kd k=>decide ((aG toks s.pos).kind=k)
 | .ap=>IU (aG toks s.pos)
 | .tx t=>decide ((aG toks s.pos).text=t)
 | .no c=> !c.ev toks s
 | .and c d=>c.ev toks s&&d.ev toks s
 | .fl=>s.flag
 | .bo b=>b
inductive Pr where
 |skip|setf (b:Bool)|bump (p:Pr)|acc (xs:List (List UInt8)) (p:Pr)|acif (xs:List (List UInt8)) (p q:Pr)|exp (x:List UInt8) (p:Pr)|idt (p:Pr)|mis (k:Int) (p:Pr)
 |call (fn:xP) (p:Pr)|node (k:Int) (q p:Pr)|wrap (k:Int) (q p:Pr)|opt (t:List UInt8) (q p:Pr)|lst (c:List UInt8) (q p:Pr)|lop (c:Cq) (q p:Pr)|lopF (c:Cq) (q p:Pr)|lpw (c:Cq) (q p:Pr)|lpe (xs:List (List UInt8)) (q p:Pr)
 |ite (c:Cq) (p q:Pr)|look (c:Cq) (p q:Pr)|look2 (c d:Cq) (p q r:Pr)|ins (p:Pr)|seq (q p:Pr)|use (p:Pr)|callT (fn:xP)|bumpT|nodeT (k:Int) (q:Pr)|lpeT (xs:List (List UInt8)) (q:Pr)|lpwT (c:Cq) (q:Pr)
def mJ(toks:List Tk)(n:Nat)(R:dP):Pr->PS->Option PS
 | .skip,s=>some s
 | .setf b,s=>some {s with flag:=b}
 | .bump p,s=>(cJ toks s).bind λs=>mJ toks n R p s
 | .acc xs p,s=>(cH toks xs s).bind λs=>mJ toks n R p s
 | .acif xs p q,s=>(cH toks xs s).bind λs'=>if eI (aG toks s.pos) xs=true then mJ toks n R p s' else mJ toks n R q s'
 | .exp x p,s=>(bP toks x s).bind λs=>mJ toks n R p s
 | .idt p,s=>(bK toks s).bind λs=>mJ toks n R p s
 | .mis k p,s=>(oH k s).bind λs=>mJ toks n R p s
 | .call fn p,s=>(R fn s).bind λs=>mJ toks n R p s
 | .node k q p,s=>(cF k (mJ toks n R q) s).bind λs=>mJ toks n R p s
 | .wrap k q p,s=>(iP k (mJ toks n R q) s).bind λs=>mJ toks n R p s
 | .opt t q p,s=>(jI toks t (mJ toks n R q) s).bind λs=>mJ toks n R p s
 | .lst c q p,s=>(pM toks n c (mJ toks n R q) s).bind λs=>mJ toks n R p s
 | .lop c q p,s=>(dO (λs=>c.ev toks s) (mJ toks n R q) n s).bind λs=>mJ toks n R p s
 | .lopF c q p,s=>(dO (λs=>c.ev toks s) (mJ toks n R q) n {s with flag:=false}).bind λs=>mJ toks n R p s
 | .lpw c q p,s=>(dO (λs=>c.ev toks s) (mJ toks n R q) n s).bind λs=>mJ toks n R p s
 | .lpe xs q p,s=>(lO (λs=>eI (aG toks s.pos) xs) (cH toks xs) (mJ toks n R q) n s).bind λs=>mJ toks n R p s
 | .ite c p q,s=>if c.ev toks s=true then mJ toks n R p s else mJ toks n R q s
 | .look c p q,s=>(oM toks s).bind λz=>if c.ev toks z=true then mJ toks n R p s else mJ toks n R q s
 | .look2 c d p q r,s=>(oM toks s).bind λz=>if c.ev toks z=true then(oM toks z).bind λy=>if d.ev toks y=true then mJ toks n R p s else mJ toks n R q s else mJ toks n R r s
 | .ins p,s=>(sQ s).bind λs=>mJ toks n R p s
 | .seq q p,s=>(mJ toks n R q s).bind λs=>mJ toks n R p s
 | .use p,s=>(m86 toks n s).bind λs=>mJ toks n R p s
 | .callT fn,s=>R fn s
 | .bumpT,s=>cJ toks s
 | .nodeT k q,s=>cF k (mJ toks n R q) s
 | .lpeT xs q,s=>lO (λs=>eI (aG toks s.pos) xs) (cH toks xs) (mJ toks n R q) n s
 | .lpwT c q,s=>dO (λs=>c.ev toks s) (mJ toks n R q) n s
abbrev kFn:List UInt8:= [102,110]
abbrev tyT:Pr:=.callT .typeExpr
abbrev aJ6:List (List UInt8):= [[109,117,116]]
def aRi:Pr:=.bump (.call .expr (.exp [41] .skip))
def aQ6:Pr:=.bump (.call .expr (.exp [59] .skip))
def aQw(b:Bool):Pr:=.ite (.at [[59]]) (.acc [[59]] .skip) (.acc [[59]] (.ite (.no (.bo b)) (.mis 108 .skip) .skip))
def aQ5:Pr:=.bump (.call .expr (.call .block .skip))
def aOq:Pr:=.ite (.at [[38]]) (.node 19 (.bump (.acc aJ6 (.call .typeExpr .skip))) .skip) (.ite (.at [kFn]) (.node 20 (.bump (.exp [40] (.lst [41] tyT (.opt [45,62] tyT .skip)))) .skip) (.ite (.kd 103) (.call (.path true) .skip) (.mis 46 .skip)))
def aJs:Pr:=.exp [123] (.lop (.at [[116,121,112,101],kFn]) (.ite (.at [kFn]) (.node 3 (.bump (.call (.function false) .skip)) .skip) (.node 16 (.bump (.idt (.opt [61] tyT (.exp [59] .skip)))) .skip)) (.exp [125] .skip))
def aO0(b:Bool):Pr:=.idt (.ite (.bo b) (.acif [[60]] (.lst [62] tyT .skip) .skip) .skip)
def aQ9(k:Int):Pr:=.idt (.call .typeParams (.exp [123] (.lst [125] (.ite (.no (.kd 103)) .skip (.ite (.bo (decide (k=4))) (.node 14 (.bump (.exp [58] (.call .typeExpr .skip))) .skip) (.node 15 (.bump (.acif [[40]] (.lst [41] aOq .skip) .skip)) .skip))) .skip)))
def aQz:Pr:=.node 46 (.bump (.lop (.and (.no (.kd 100)) (.no (.at AA))) (.bump .skip) .skip)) .skip
def aRj:Pr:=.call .typeParams (.call .typeExpr (.acif [[102,111,114]] (.call .typeExpr (.seq aJs .skip)) (.ins (.seq aJs .skip))))
def aP3(c:List UInt8)(p:Pr->Pr):Pr:=.idt (.exp c (p (.exp [61] (.call .expr (.exp [59] .skip)))))
def prog:xP->Pr
 | .block=>.node 21 (.exp [123] (.lopF (.and (.and (.and (.no .fl) (.no (.at [[125]]))) (.no (.kd 100))) (.no (.at AA))) (.call .statement .skip) (.ite (.no .fl) (.mis 0 (.exp [125] .skip)) (.exp [125] .skip)))) .skip
 | .letS=>.bump (.call .pattern (.opt [58] tyT (.exp [61] (.call .expr (.exp [59] .skip)))))
 | .returnStmt=>.bump (.ite (.at [[59]]) (.mis 0 (.exp [59] .skip)) (.call .expr (.exp [59] .skip)))
 | .expr=>.call (.binary 0) .skip
 | .binary 0=>.call (.binary 1) (.lpwT (.at (vI 0)) (.wrap 39 (.bump (.call (.binary 1) .skip)) .skip))
 | .binary 1=>.call (.binary 2) (.lpwT (.at (vI 1)) (.wrap 39 (.bump (.call (.binary 2) .skip)) .skip))
 | .binary 2=>.call (.binary 3) (.ite (.at (vI 2)) (.wrap 39 (.bump (.call (.binary 3) .skip)) .skip) .skip)
 | .binary 3=>.call (.binary 4) (.lpwT (.at (vI 3)) (.wrap 39 (.bump (.call (.binary 4) .skip)) .skip))
 | .binary 4=>.call (.binary 5) (.lpwT (.at (vI 4)) (.wrap 39 (.bump (.call (.binary 5) .skip)) .skip))
 | .binary _=>.call .unary .skip
 | .unary=>.ite (.at [[45],[33],[42]]) (.node 40 (.bump (.call .unary .skip)) .skip) (.ite (.at [[38]]) (.node 41 (.bump (.acc aJ6 (.call .unary .skip))) .skip) (.call .primary (.call .postfx .skip)))
 | .arguments=>.bump (.lst [41] (.call (.binary 0) .skip) .skip)
 | .postfx=>.lpw (.at [[40],[46]]) (.ite (.at [[40]]) (.wrap 30 (.callT .arguments) .skip) (.look2 (.kd 103) (.at [[40]]) (.wrap 31 (.bump (.bump (.call .arguments .skip))) .skip) (.wrap 32 (.bump (.idt .skip)) .skip) (.wrap 32 (.bump (.idt .skip)) .skip))) .skip
 | .primary=>.ite (.kd 105) (.node 27 .bumpT .skip) (.ite (.kd 106) (.node 29 .bumpT .skip) (.ite (.at [[116,114,117,101],[102,97,108,115,101]]) (.node 28 .bumpT .skip) (.ite (.kd 103) (.call (.path false) (.ite (.at [[33]]) (.look (.at [[40]]) (.wrap 42 (.bump (.call .arguments .skip)) .skip) .skip) .skip))
   (.ite (.at [[40]]) (.node 60 aRi .skip) (.ite (.at [[123]]) (.call .block .skip) (.ite (.at [[105,102]]) (.call .ifExpr .skip) (.ite (.at [[109,97,116,99,104]]) (.node 35 (.callT .matchE) .skip) (.ite (.at [[110,101,119]]) (.node 33 (.callT .structLit) .skip) (.ite (.at [[124],[124,124]]) (.node 38 (.callT .lambda) .skip) (.mis 46 .skip))))))))))
 | .ifExpr=>.node 37 (.bump (.call .expr (.call .block (.opt [101,108,115,101] (.ite (.at [[105,102]]) (.call .ifExpr .skip) (.call .block .skip)) .skip)))) .skip
 | .matchE=>.bump (.call .expr (.exp [123] (.lst [125] (.ite .ap (.node 36 (.call .pattern (.exp [61,62] (.call .expr .skip))) .skip) .skip) .skip)))
 | .structLit=>.bump (.call (.path false) (.exp [123] (.lst [125] (.ite (.kd 103) (.node 34 (.bump (.exp [58] (.call .expr .skip))) .skip) .skip) .skip)))
 | .lambda=>.ite (.at [[124,124]]) (.bump (.node 12 .skip (.call .expr .skip))) (.bump (.call (.params [124]) (.call .expr .skip)))
 | .pattern=>.ite (.at aJ6) (.node 44 (.bump (.idt .skip)) .skip) (.ite (.and (.kd 103) (.tx [95])) (.node 43 .bumpT .skip) (.ite (.kd 103) (.look (.no (.at [[40],[58,58]])) (.node 44 .bumpT .skip) (.node 45 (.call (.path false) (.acif [[40]] (.lst [41] (.callT .pattern) .skip) .skip)) .skip))
   (.ite (.kd 105) (.node 27 .bumpT .skip) (.ite (.at [[116,114,117,101],[102,97,108,115,101]]) (.node 28 .bumpT .skip) (.mis 46 .skip)))))
 | .path b=>.node 17 (.node 18 (aO0 b) (.lpeT [[58,58]] (.nodeT 18 (aO0 b)))) .skip
 | .typeExpr=>aOq
 | .typeParams=>.node 10 (.acif [[60]] (.lst [62] (.ite (.no (.kd 103)) .skip (.node 11 (.bump (.acif [[58]] (.call (.path true) (.lpe [[43]] (.call (.path true) .skip) .skip)) .skip)) .skip)) .skip) .skip) .skip
 | .params c=>.node 12 (.lst c (.ite (.kd 103) (.node 13 (.bump (.opt [58] tyT .skip)) .skip) .skip) .skip) .skip
 | .function b=>.idt (.call .typeParams (.exp [40] (.call (.params [41]) (.opt [45,62] tyT (.ite (.bo b) (.call .block .skip) (.acif [[59]] (.mis 0 .skip) (.call .block .skip)))))))
 | .itemBody k=>if k=2 then .use .skip else if k=3 then .call (.function true) .skip else if k=4\/k=5 then .seq (aQ9 k) .skip else if k=6 then .idt (.seq aJs .skip)else if k=7 then .seq aRj .skip else if k=8 then aP3 [58] (.call .typeExpr)else if k=9 then aP3 [40] (.call (.params [41]))else .skip
 | .statement=>.skip| .item=>.skip
section
variable(toks:List Tk)(n:Nat)(R:dP)
theorem WP:∀l,l<=5->aEl toks n R l=mJ toks n R (prog (.binary l))
 |0,_=>rfl|1,_=>rfl|2,_=>rfl|3,_=>rfl|4,_=>rfl|5,_=>rfl|n+6,h=>z8
theorem NF(k:Int):∀s,m82 toks n R k s=mJ toks n R (prog (.itemBody k)) s:=λs=>by
 by_cases h2:k=2
 ·subst h2;rfl
 by_cases h3:k=3
 ·subst h3;rfl
 by_cases h4:k=4
 ·subst h4;rfl
 by_cases h5:k=5
 ·subst h5;rfl
 by_cases h6:k=6
 ·subst h6;rfl
 by_cases h7:k=7
 ·subst h7;rfl
 by_cases h8:k=8
 ·subst h8;rfl
 by_cases h9:k=9
 ·subst h9;rfl
 unfold m82 prog;simp only[decide_eq_true_eq,h2,h3,h4,h5,h6,h7,h8,h9,if_false,or_self];rfl
end
def J(toks:List Tk)(S:Int)(al:List Int)(nd:Bool)(s0 s:PS):Prop:=∃f fs new,s0.stack=f::fs/\s.stack=⟨f.kind,f.kids++new⟩::fs/\s0.pos<=s.pos/\s.pos<=toks.length/\
 (bE new:Int)+(if s0.pos<s.pos then 60 else 0)<=S+300*((s.pos:Int) -s0.pos)/\tH new=XE toks s0.pos s.pos/\(∀t∈new,wO t=true/\(spj t.kind=true->t.kind∈al))/\(nd=true->∃t∈new,t.kind<100)
def Rm(toks:List Tk)(d r:Nat)(s:PS):Prop:=∃f fs,s.stack=f::fs/\s.pos<=toks.length/\f.kids.length+r+300*(toks.length-s.pos)<iB/\s.stack.length+d<iB
theorem jQ:∀a b,bE (a++b)=bE a+bE b
 | [],b=>by simp[bE]
 |t::a,b=>by simp only[aSg,bE,jQ a b];omega
theorem St.size_pos(t:St):1<=t.size:=by cases t;simp only[St.size];omega
theorem iR:∀l,l.length<=bE l
 | []=>aTn _
 |t::l=>by have:=iR l;have:=t.size_pos;simp only[aS2,bE];omega
section
variable{toks:List Tk}{S S2:Int}{al al2:List Int}{nd nd2:Bool}{s0 s1 s s':PS}{d r:Nat}
theorem FK{xs:List (List UInt8)}(h:eI (aG toks s.pos) xs=true):s.pos<toks.length:=by
 apply Decidable.byContradiction;intro c;rw[oY z8]at h;simp[eI,aEf]at h
theorem JE(h:JW toks s=false):s.pos<toks.length:=by
 apply Decidable.byContradiction;intro c;unfold JW at h;rw[oY z8]at h;simp[aEf]at h
theorem J.trans(h:J toks S al nd s0 s1)(k:J toks S2 al2 nd2 s1 s):J toks (S+S2) (al++al2) (nd||nd2) s0 s:=by
 obtain⟨f,fs,n1,a1,a2,a3,a4,a5,a6,a7,a8⟩:=h;obtain⟨g,gs,n2,b1,b2,b3,b4,b5,b6,b7,b8⟩:=k;rw[a2]at b1;injection b1 with b1 b0;subst b1 b0;refine⟨f,fs,n1++n2,a1,by rw[b2];simp,z8,b4, ?_,by rw[vT,a6,b6,<-KR toks a3 b3],λt ht=> ?_,λh=> ?_⟩
 ·rw[jQ]
  split at a5<;>split at b5<;>split<;>omega
 ·rcases aTs.1 ht with q|q
  ·exact⟨(a7 t q).1,λz=>aUg _ ((a7 t q).2 z)⟩
  ·exact⟨(b7 t q).1,λz=>List.mem_append_right _ ((b7 t q).2 z)⟩
 ·rcases(by simpa using h:nd=true\/nd2=true)with q|q
  ·obtain⟨t,t1,t2⟩:=a8 q;exact⟨t,aUg _ t1,t2⟩
  ·obtain⟨t,t1,t2⟩:=b8 q;exact⟨t,List.mem_append_right _ t1,t2⟩
theorem J.mono(h:J toks S al nd s0 s)(h1:S<=S2)(h2:∀x∈al,x∈al2)(h3:nd2=true->nd=true):J toks S2 al2 nd2 s0 s:=by
 obtain⟨f,fs,n1,a1,a2,a3,a4,a5,a6,a7,a8⟩:=h;exact⟨f,fs,n1,a1,a2,a3,a4,z8,a6,λt ht=>⟨(a7 t ht).1,λz=>h2 _ ((a7 t ht).2 z)⟩,λz=>a8 (h3 z)⟩
theorem J.pos(h:J toks S al nd s0 s):s0.pos<=s.pos/\s.pos<=toks.length:=by obtain⟨f,fs,n1,a1,a2,a3,a4,_⟩:=h;exact⟨a3,a4⟩
theorem Rm.refl(h:Rm toks d r s):J toks 0 [] false s s:=by
 obtain⟨f,fs,b1,b2,b3,b4⟩:=h;exact⟨f,fs,[],b1,by rw[b1];simp,aSl _,b2,by simp[bE],by simp[tH,vF],λt ht=>(by cases ht),λh=>by cases h⟩
theorem J.rm(h:J toks S al nd s0 s)(k:Rm toks d (r+400) s0)(hS:S<=390):Rm toks d r s:=by
 obtain⟨f,fs,n1,a1,a2,a3,a4,a5,a6,a7,a8⟩:=h;obtain⟨g,gs,b1,b2,b3,b4⟩:=k;rw[a1]at b1;injection b1 with b1 b0;subst b1 b0;have:=iR n1;refine⟨_,_,a2,a4, ?_,by rw[a2];rw[a1]at b4;simpa using b4⟩;simp only[aTi]
 split at a5<;>omega
theorem Rm.mono{d' r':Nat}(h:Rm toks d r s)(h1:d'<=d)(h2:r'<=r):Rm toks d' r' s:=by
 obtain⟨f,fs,b1,b2,b3,b4⟩:=h;exact⟨f,fs,b1,b2,z8,z8⟩
theorem J.absorb(h:J toks S al nd s0 s1)(hm:s0.pos<s1.pos)(k:J toks S2 al2 nd2 s1 s)(hm2:s1.pos<s.pos)(h60:S2<=60):J toks S (al++al2) (nd||nd2) s0 s:=by
 obtain⟨f,fs,n,a1,a2,a3,a4,a5,a6⟩:=h.trans k;obtain⟨f',fs',n1,c1,c2,c3,c4,c5,c6⟩:=h;obtain⟨g,gs,n2,b1,b2,b3,b4,b5,b6⟩:=k;rw[c1]at a1;injection a1 with a1 a0;subst a1 a0;rw[c2]at b1;injection b1 with b1 b0;subst b1 b0;have hn:n=n1++n2:=by
  rw[a2]at b2;injection b2 with b2 _;injection b2 with _ b2;rw[aUa]at b2;exact List.append_cancel_left b2
 refine⟨_,_,n,c1,a2,a3,a4, ?_,a6⟩;rw[hn,jQ];rw[if_pos hm]at c5;rw[if_pos hm2]at b5;rw[if_pos z8];omega
theorem IX{t:St}{f:vU}{fs:List vU}(h:qQ t s=some s')(e:s.stack=f::fs):s'.stack=⟨f.kind,f.kids++ [t]⟩::fs:=by
 unfold qQ at h;rw[e]at h;simp only at h
 split at h
 ·injection h with h;rw[<-h]
 ·cases h
theorem yJ:∀(n:Nat) {s s':PS},wU toks n s=some s'->∀ {f:vU} {fs:List vU},s.stack=f::fs->∃new,s'.stack=⟨f.kind,f.kids++new⟩::fs/\(∀t∈new,SW t.kind=true)/\aG toks s.pos=aG toks s'.pos/\(toks.length-s.pos<=n->∀h:s'.pos<toks.length,BE toks[s'.pos].kind=false)
 |0,s,s',h,f,fs,e=>by
  injection h with h;subst h;exact⟨[],by rw[e];simp,λt h=>(by cases h),rfl,λh hl=>z8⟩
 |n+1,s,s',h,f,fs,e=>by
  unfold wU at h
  split at h
  ·rename_i ht;injection h with h;subst h;exact⟨[],by rw[e];simp,λt h=>(by cases h),rfl,λ_ hl=>by rw[aTd hl]at ht;cases ht⟩
  ·rename_i t ht
   split at h
   ·rename_i hv;obtain⟨s1,h1,h2⟩:=oB h;obtain⟨hl,s2,h3,h4,h5⟩:=sD h1;rw[aTd hl]at ht;injection ht with ht;have a2:=IX h3 e;have hs1:s1.stack=s2.stack:=by rw[h5]
    have hp1:s1.pos=s.pos+1:=by rw[h5,<-h4]
    obtain⟨new,b2,b3,b4,b5⟩:=yJ n h2 (hs1.trans a2);refine⟨St.mk toks[s.pos].kind toks[s.pos].text []::new,by rw[b2];simp,λt' ht'=> ?_, ?_,λhn=>b5 z8⟩
    ·rcases aTv.1 ht' with rfl|ht'
     ·rw[<-ht]at hv;exact hv
     ·exact b3 t' ht'
    ·rw[<-b4,hp1];exact xK hl (by rw[ht];exact hv)
   ·rename_i hv;injection h with h;subst h;exact⟨[],by rw[e];simp,λt h=>(by cases h),rfl,λ_ hl=>by
     rw[aTd hl]at ht;injection ht with ht;rw[ht];simpa using hv⟩
theorem WM(h:cJ toks s=some s')(hk:(aG toks s.pos).kind≠104){f:vU}{fs:List vU}(e:s.stack=f::fs):∃new,s'.stack=⟨f.kind,f.kids++new⟩::fs/\∀t∈new,t.kind≠104:=by
 obtain⟨s1,h1,h2⟩:=vR h;obtain⟨new,a2,a3,a4,a5⟩:=yJ _ h1 e;have hn:∀t∈new,t.kind≠104:=λt ht q=>by have:=a3 t ht;rw[q]at this;cases this
 split at h2
 ·rename_i hlt;obtain⟨hl,s2,h3,h4,h5⟩:=sD h2;refine⟨new++ [St.mk toks[s1.pos].kind toks[s1.pos].text []],by rw[h5];exact(IX h3 a2).trans z6,λt ht=> ?_⟩;rcases aTs.1 ht with q|q
  ·exact hn t q
  ·rw[aT2.1 q];show toks[s1.pos].kind≠104;rw[a4,rV hl (a5 (aSl _) hl)]at hk;exact hk
 ·injection h2 with h2;subst h2;exact⟨new,a2,hn⟩
theorem J.nk(h:J toks S [104] nd s s')(hn:∀f fs,s.stack=f::fs->∃new,s'.stack=⟨f.kind,f.kids++new⟩::fs/\∀t∈new,t.kind≠104):J toks S [] nd s s':=by
 obtain⟨f,fs,n1,a1,a2,a3,a4,a5,a6,a7,a8⟩:=h;obtain⟨n2,b1,b2⟩:=hn f fs a1;rw[a2]at b1;injection b1 with b1 _;injection b1 with _ b1;have:=List.append_cancel_left b1;subst this;exact⟨f,fs,n1,a1,a2,a3,a4,a5,a6,λt ht=>⟨(a7 t ht).1,λz=>absurd (aT2.1 ((a7 t ht).2 z)) (b2 t ht)⟩,a8⟩
theorem aC0(h:cJ toks s=some s')(hk:(aG toks s.pos).kind≠104)(x:J toks S [104] nd s s'):J toks S [] nd s s':=x.nk λ_ _ e=>WM h hk e
def TR(toks:List Tk)(s s':PS):Prop:=∃f fs new,s.stack=f::fs/\s'.stack=⟨f.kind,f.kids++new⟩::fs/\s.pos<=s'.pos/\s'.pos<=toks.length/\bE new=s'.pos-s.pos/\tH new=XE toks s.pos s'.pos/\∀t∈new,wO t=true/\OG t.kind=false
theorem TR.j(h:TR toks s s'):J toks 0 [104] false s s'/\(s.pos<s'.pos->J toks (-239) [104] false s s'):=by
 obtain⟨f,fs,n,a1,a2,a3,a4,a5,a6,a7⟩:=h;have hz:∀t∈n,wO t=true/\(spj t.kind=true->t.kind∈ [104]):=λt ht=>⟨(a7 t ht).1,λz=>by unfold spj at z;rw[(a7 t ht).2]at z;simpa using z⟩;exact⟨⟨f,fs,n,a1,a2,a3,a4,by rw[a5];split<;>omega,a6,hz,λz=>by cases z⟩,λhm=>⟨f,fs,n,a1,a2,a3,a4,by rw[a5,if_pos hm];omega,a6,hz,λz=>by cases z⟩⟩
theorem TR.trans(h:TR toks s s1)(k:TR toks s1 s'):TR toks s s':=by
 obtain⟨f,fs,n1,a1,a2,a3,a4,a5,a6,a7⟩:=h;obtain⟨g,gs,n2,b1,b2,b3,b4,b5,b6,b7⟩:=k;rw[a2]at b1;injection b1 with b1 b0;subst b1 b0;refine⟨f,fs,n1++n2,a1,by rw[b2];simp,z8,b4,by rw[jQ];omega,by rw[vT,a6,b6,<-KR toks a3 b3],λt ht=> ?_⟩;rcases aTs.1 ht with q|q
 ·exact a7 t q
 ·exact b7 t q
theorem Rm.tr(h:Rm toks d r s):TR toks s s:=by
 obtain⟨f,fs,b1,b2,b3,b4⟩:=h;exact⟨f,fs,[],b1,by rw[b1];simp,aSl _,b2,by simp[bE],by simp[tH,vF],λt ht=>by cases ht⟩
theorem TR.rm(h:TR toks s s')(k:Rm toks d r s):Rm toks d r s':=by
 obtain⟨f,fs,n1,a1,a2,a3,a4,a5,a6⟩:=h;obtain⟨g,gs,b1,b2,b3,b4⟩:=k;rw[a1]at b1;injection b1 with b1 b0;subst b1 b0;have:=iR n1;exact⟨_,_,a2,a4,by simp only[aTi];omega,by rw[a2];rw[a1]at b4;simpa using b4⟩
variable(hT:CN toks)
include hT
theorem XC(h:s.pos<toks.length)(rm:Rm toks d r s):∃s',KD toks s=some s'/\TR toks s s'/\s'.pos=s.pos+1:=by
 obtain⟨f,fs,b1,b2,b3,b4⟩:=rm;have ht:=hT _ (aTk h);have h60:¬toks[s.pos].kind=60:=z8
 have h7:¬toks[s.pos].kind=7:=z8
 have h12:¬toks[s.pos].kind=12:=z8
 have h13:¬toks[s.pos].kind=13:=z8
 refine⟨⟨s.pos+1,⟨f.kind,f.kids++ [St.mk toks[s.pos].kind toks[s.pos].text []]⟩::fs,s.flag⟩, ?_,⟨f,fs,[_],b1,rfl,Nat.le_succ _,h,by simp[bE,St.size], ?_,λt q=> ?_⟩,rfl⟩
 ·unfold KD;rw[aTd h];simp only[vW b1 (show f.kids.length<iB by omega),aS1]
 ·simp only[aE6 toks h,tH,wI]
  split<;>simp_all
 ·rw[aT2]at q;subst q;have hge:¬toks[s.pos].kind<100:=z8
  exact⟨by simp[wO,okN,PH,VY,ht.1,h60,h7,hge],by simp[OG,St.kind,h7,h12,h13]⟩
theorem JS:∀(n:Nat) {s:PS},toks.length-s.pos<=n->Rm toks d r s->∃s',wU toks n s=some s'/\TR toks s s'
 |0,s,hn,rm=>⟨s,rfl,rm.tr⟩
 |n+1,s,hn,rm=>by
  unfold wU
  by_cases h:s.pos<toks.length
  ·rw[aTd h];simp only
   by_cases c:BE toks[s.pos].kind=true
   ·rw[if_pos c];obtain⟨s1,e1,x1,p1⟩:=XC hT h rm;obtain⟨s2,e2,x2⟩:=JS n (s:=s1) z8 (x1.rm rm);exact⟨s2,by rw[e1];exact e2,x1.trans x2⟩
   ·rw[if_neg c];exact⟨s,rfl,rm.tr⟩
  ·rw[aSx z8];exact⟨s,rfl,rm.tr⟩
theorem nE(rm:Rm toks d r s):∃s',cJ toks s=some s'/\J toks 0 [104] false s s'/\(s.pos<toks.length->s.pos<s'.pos/\J toks (-239) [104] false s s'):=by
 obtain⟨s1,e1,x1⟩:=JS hT _ (aSl _) rm;unfold cJ BG;rw[e1];simp only[aSy];have hp:s.pos<=s1.pos:=by obtain⟨f,fs,n1,a1,a2,a3,_⟩:=x1;exact a3
 have hp2:s1.pos<=toks.length:=by obtain⟨f,fs,n1,a1,a2,a3,a4,_⟩:=x1;exact a4
 by_cases h:s1.pos<toks.length
 ·rw[if_pos h];obtain⟨s2,e2,x2,p2⟩:=XC hT h (x1.rm rm);have x:=(x1.trans x2).j;exact⟨s2,e2,x.1,λ_=>⟨z8,x.2 z8⟩⟩
 ·rw[if_neg h];exact⟨s1,rfl,x1.j.1,λ_=>⟨z8,x1.j.2 z8⟩⟩
theorem pH{xs:List (List UInt8)}(rm:Rm toks d r s):∃s',cH toks xs s=some s'/\J toks 0 [104] false s s'/\(eI (aG toks s.pos) xs=true->s.pos<s'.pos/\J toks (-239) [104] false s s')/\(¬eI (aG toks s.pos) xs=true->s'=s):=by
 unfold cH
 by_cases c:eI (aG toks s.pos) xs=true
 ·rw[if_pos c];obtain⟨s1,e1,x1,y1⟩:=nE hT rm;exact⟨s1,e1,x1,λ_=>y1 (FK c),λq=>absurd c q⟩
 ·rw[if_neg c];exact⟨s,rfl,rm.refl.mono (aUi _) (λ_ h=>by cases h) (λh=>h),λq=>absurd q c,λ_=>rfl⟩
end
set_option maxRecDepth 4000
mutual
def kQ:St->Nat
 | .mk _ x ch=>x.length+hM ch
def hM:List St->Nat
 | []=>0
 |t::ts=>kQ t+hM ts
end
theorem xS(t:St):kQ t=t.text.length+hM t.ch:=by cases t;rw[kQ];rfl
theorem AO:∀a b,hM (a++b)=hM a+hM b
 | [],b=>by simp[hM]
 |t::ts,b=>by rw[aSg,hM,hM,AO ts b];omega
theorem PB{us:List St}{i:Nat}(hi:i<us.length):hM (us.take (i+1))=hM (us.take i)+kQ us[i]:=by
 rw[aT8 hi,AO];simp[hM]
theorem aCf(us:List St)(i:Nat):hM (us.take i)<=hM us:=by
 have:=AO (us.take i) (us.drop i);rw[aT3]at this;omega
mutual
def RG:St->List Tk
 | .mk k x ch=>if 100<=k then(if x= []then []else [⟨k,x⟩])else tT ch
def tT:List St->List Tk
 | []=> []
 |t::ts=>RG t++tT ts
end
theorem ES(t:St):RG t=if 100<=t.kind then(if t.text= []then []else [⟨t.kind,t.text⟩])else tT t.ch:=by cases t;rw[RG];rfl
theorem LH:∀a b,tT (a++b)=tT a++tT b
 | [],b=>by simp[tT]
 |t::ts,b=>by rw[aSg,tT,tT,LH ts b,aUa]
theorem UR{us:List St}{i:Nat}(hi:i<us.length):tT (us.take (i+1))=tT (us.take i)++RG us[i]:=by
 rw[aT8 hi,LH];simp[tT]
mutual
theorem TT:∀t:St,(RG t).length<=t.size
 | .mk k x ch=>by
  rw[RG,St.size];have:=CY ch
  split
  ·split<;>simp
  ·omega
theorem CY:∀ts:List St,(tT ts).length<=bE ts
 | []=>by simp[tT]
 |t::ts=>by rw[tT,aTi,bE];have:=TT t;have:=CY ts;omega
end
theorem yV:∀(us:List St) (i:Nat),bE (us.take i)<=bE us
 | [],i=>z6
 |u::us,0=>by simp[bE]
 |u::us,i+1=>by rw[List.take_succ_cons,bE,bE];have:=yV us i;omega
theorem aFg{us vs:List Tk}{id:Nat}{tl:jM}(hb:(us.length+vs.length)*24<=2^47)(fresh:Nat)(H:aC)(hH:H[id]? =some (.buf us.length 2))(hne:vs≠ []):
  dQ ⟨true,2,24⟩ fresh H (.slice (us.map Tk.enc) (.tok id)) (.slice (vs.map Tk.enc) tl)=some (.slice ((us++vs).map Tk.enc) (.tok id),some (id, .buf (us.length+vs.length) 2)):=by
 have em:maxLen=9223372036854775807:=z7
 have:=zX (i:=⟨true,2,24⟩) (fr:=fresh) (H:=H) (es:=us.map Tk.enc) (xs:=vs.map Tk.enc) (id:=id) (tl:=tl) (by simpa using hH) (by simpa using hne) (by simpa using hb) (by simp;omega) (λe he=>by obtain⟨v,_,rfl⟩:=aTq.1 he;exact v.enc_len)
  (λe he=>by obtain⟨v,_,rfl⟩:=aTq.1 he;exact⟨v.enc_len,by rw[Tk.enc_cells];rfl⟩) z7
 simpa using this
theorem CH:∀(k:Nat) (t:St),t.size<=k->k<=1000000->kQ t<=1000000->PC Tryz.prog 112 [t.enc] (aB ((kQ t:Nat):Int))
 |0,t,h,_,_=>by cases t;simp[St.size]at h
 |k+1,t,h,hk,hw=>by
  have hks:t.size=1+bE t.ch:=by cases t;simp only[St.size,St.ch]
  have hkl:=iR t.ch;have hmx:maxLen=9223372036854775807:=z7
  have hwe:=xS t;refine dN (N:=22) Tryz.func112 rfl rfl z6 (by simp[St.bel,Tk.bel,jR,gV,aZ.int,aZ.str,aZ.bool,eD]) (.int _ _) ?_;refine ZE dM ?_;refine ZE (a2 y9 dM) ?_;refine ZE (a2 nG dM) ?_;refine wQ ?_;refine fN (σ:=Nat) (t.ch.length) (λ(q:Nat)=> [(1, .optr 0 0),(3,aB ((q:Nat):Int)),(10, .slice (t.ch.map St.enc) .none)]) [1,3,10] ([]) (λ(q:Nat)=> [.row [.int .i64 t.kind, .str t.text, .slice (t.ch.map St.enc) .none]]) (λ(i:Nat) (q:Nat)=>q=t.text.length+hM (t.ch.take i)) (t.text.length) (_) rfl rfl rfl rfl rfl rfl rfl rfl rfl z7 z7 z7 (λ_=>rfl) (z8) (Zt tN) (Zf tN) (by simp[hM]) (λ_ _ _=>by first|exact aTn _| (simp only[aTi];omega)) ?_ ?_ ?_
  ·intro i q hg;refine⟨?_,ZR⟩;simp only[aT1];exact ZH
  ·intro i q hi hg;have g1:=bS hi;have g2:=eH St.enc hi;have hmem:t.ch[i]∈t.ch:=aTk hi;have hsa:=St.size_ch (t:=t) hmem;have htk:=PB hi;have hwl:=aCf t.ch (i+1);obtain⟨u,hu⟩:∃u,u=t.ch[i]:=⟨_,rfl⟩;rw[<-hu]at g2 hmem hsa htk;have ih:=CH k u z8 z8 z8;have hwz:IntKind.i64.wrap ((q:Int)+((kQ u:Nat):Int))=((q+kQ u:Nat):Int):=by rw[aY z8 z8];omega
   refine ZE (a5 nG dM g1 g2 hwz) ?_;refine ZT 2 (a4 dM g1 g2 hwz) ?_;refine ZP (a3 g1 g2 hwz) JB (ih _) ?_;refine ZX (a4 y3 g1 g2 hwz) ?_;exact⟨ZV,q+kQ u,_,ZV,by simp only[jN,seval,aB,qC]<;>rfl,by rw[htk];omega⟩
  ·intro q hg;rw[aUd]at hg;refine uA ?_;refine wQ ?_;refine wT ⟨.inr rfl,_,rfl, ?_⟩;rw[hwe,<-hg];rfl
theorem aNw(xs:List Int)(k:Int)(hx:xs.length<=maxLen):PC Tryz.prog 81 [.slice (xs.map aB) .none,aB k] (.bool (xs.any λx=>decide (k=x))):=by
 refine dN (N:=17) Tryz.func81 rfl rfl z6 (by simp[eD,aZ.int]) (.bool _) ?_;refine uA ?_;refine ZE (a2 y3 y48) ?_;refine wQ ?_;refine fN (σ:=Unit) (xs.length) (λ(s:Unit)=> [(7, .slice (xs.map aB) .none),(1,aB k)]) [7,1] ([]) (λ(s:Unit)=> []) (λ(i:Nat) (s:Unit)=>(xs.take i).any (λx=>decide (k=x))=false) (()) ([]) rfl rfl rfl rfl rfl rfl rfl rfl rfl z7 z7 z7 (λ_=>rfl) (hx) (Zt tN) (Zf tN) z6 (λ_ _ _=>by first|exact aTn _| (simp only[aTi];omega)) ?_ ?_ ?_
 ·exact λi s hg=>⟨by first|exact dF _| (simp only[aT4];assumption)| (refine iK hb' z6 ?_;exact ZH),ZR⟩
 ·intro i s hi hg;have g1:=bS hi;have g2:=eH aB hi;refine ZE (a4 y3 y48 g1 g2) ?_;refine ZE (a3 y3 g1 g2) ?_;refine ZI (a2 g1 g2) (λb0=> ?_) (λb0=> ?_)
  ·
   refine ZE (a2 g1 g2) ?_;refine wQ ?_;refine wT ⟨.inr rfl,_,rfl, ?_⟩;rw[List.any_eq_true.2 ⟨_,aTk hi,b0⟩];rfl
  ·
   refine qK ?_;exact⟨ZV,(),[],ZV,rfl,eS hi hg b0⟩
 ·intro s hg;rw[aUd]at hg;refine uA ?_;refine wQ ?_;refine wT ⟨.inr rfl,_,rfl, ?_⟩;rw[hg];rfl
theorem aD4:PC Tryz.prog 184 [] (.slice ([2,3,4,5,6,8,9,11,13,14,15,16,18,31,32,34,44].map aB) .none):=by
 refine dN (N:=2) Tryz.func184 rfl rfl z6 z6 (eD _ _) ?_;refine uA ?_;refine ZE (a2 y3 y48) ?_;refine wQ ?_;refine wT ⟨.inr rfl,_,rfl, ?_⟩;rfl
theorem IQ:∀(k:Nat) (t:St),t.size<=k->k<=1000000->PC Tryz.prog 31 [t.enc] (.slice ((RG t).map Tk.enc) .none)
 |0,t,h,_=>by cases t;simp[St.size]at h
 |k+1,t,h,hk=>by
  have hks:t.size=1+bE t.ch:=by cases t;simp only[St.size,St.ch]
  have hkl:=iR t.ch;have hmx:maxLen=9223372036854775807:=z7
  refine dN (N:=31) Tryz.func31 rfl rfl z6 (by simp[St.bel,Tk.bel,jR,gV,aZ.int,aZ.str,aZ.bool,eD]) (jR _ _) ?_;refine ZE dM ?_;refine ZE (a2 y3 dM) ?_;refine ZI0 (λbt8=> ?_) (λbt8=> ?_)
  ·
   have h1:100<=t.kind:=by simpa using bt8
   refine ZE (a2 y9 dM) ?_;refine ZI0 (λbt11=> ?_) (λbt11=> ?_)
   ·
    have h2:t.text= []:=by simpa using bt11
    have hx:RG t= []:=by rw[ES,if_pos h1,if_pos h2]
    refine uA ?_;refine wQ ?_;refine wT ⟨.inr rfl,_,rfl, ?_⟩
    first|rw[hx]|rw[ES,if_neg h1,<-hg]
    rfl
   ·
    have h2:¬t.text= []:=by simpa using bt11
    have hx:RG t= [⟨t.kind,t.text⟩]:=by rw[ES,if_pos h1,if_neg h2]
    refine qK ?_;refine ZE (a5 y3 y9 dM lT JZ) ?_;refine wQ ?_;refine wT ⟨.inr rfl,_,rfl, ?_⟩
    first|rw[hx]|rw[ES,if_neg h1,<-hg]
    rfl
  ·
   have h1:¬100<=t.kind:=by simpa using bt8
   refine qK ?_;refine uA ?_;refine ZE (a2 nG dM) ?_;refine wQ ?_;refine sO 3 2 (es:= []) (Zny tN) ?_;refine fN (σ:=List Tk) (t.ch.length) (λ(q:List Tk)=> [(1, .optr 0 0),(3, .slice (q.map Tk.enc) (.tok 1)),(19, .slice (t.ch.map St.enc) .none)]) [1,3,19] ([]) (λ(q:List Tk)=> [.row [.int .i64 t.kind, .str t.text, .slice (t.ch.map St.enc) .none], .buf q.length 2]) (λ(i:Nat) (q:List Tk)=>q=tT (t.ch.take i)) ([]) (_) rfl rfl rfl rfl rfl rfl rfl rfl rfl z7 z7 z7 (λ_=>rfl) (z8) (Zt tN) (Zf tN) (by simp[tT]) (λ_ _ _=>by first|exact aTn _| (simp only[aTi];omega)) ?_ ?_ ?_
   ·intro i q hg;refine⟨?_,by repeat (first|exact kI.nil|refine kI.cons (by first|exact St.bel _ _|exact gV _ _|exact Tk.bel _ _|exact jR _ _|exact iV _ z6|exact At.bel _ _|exact sU _ _|exact jY _ z6|exact Sy.bel _ _|exact sS _ _|exact jV _ z6|exact Md.bel _ _|exact Dg.bel _ _|exact sV _ _|exact jK _ _|exact Tk.bel _ _|exact St.bel _ _|exact Nd.bel _ _|exact Dg.bel _ _|exact cQ _ _|exact gV _ _|exact eD _ _|exact rO _ _|exact cR _|exact cT _|exact aZ.optr _ _ (by first| (simp;done)| (simp;omega))|exact aZ.int _ _|exact aZ.bool _|exact aZ.str _|exact aZ.nilp|exact aZ.nilfn|exact aZ.optr _ _ z6|exact cR _|exact cT _|exact iC _ _|assumption) ?_)⟩;simp only[aT1]
    repeat (first|exact dF _|exact trivial|exact iX _| (refine jF.cons ?_ ?_)| (refine gY (by first|exact St.bel _ _|exact gV _ _|exact Tk.bel _ _|exact jR _ _|exact iV _ z6|exact At.bel _ _|exact sU _ _|exact jY _ z6|exact Sy.bel _ _|exact sS _ _|exact jV _ z6|exact Md.bel _ _|exact Dg.bel _ _|exact sV _ _|exact jK _ _|exact Tk.bel _ _|exact St.bel _ _|exact Nd.bel _ _|exact Dg.bel _ _|exact cQ _ _|exact gV _ _|exact eD _ _|exact rO _ _|exact cR _|exact cT _|exact aZ.optr _ _ (by first| (simp;done)| (simp;omega))|exact aZ.int _ _|exact aZ.bool _|exact aZ.str _|exact aZ.nilp|exact aZ.nilfn|exact aZ.optr _ _ z6|exact cR _|exact cT _|exact iC _ _|assumption) ?_))
   ·intro i q hi hg;have g1:=bS hi;have g2:=eH St.enc hi;have hmem:t.ch[i]∈t.ch:=aTk hi;have hsa:=St.size_ch (t:=t) hmem;have htk:=UR hi;have hql:q.length<=bE t.ch:=by rw[hg];have:=CY (t.ch.take i);have:=yV t.ch i;omega
    obtain⟨u,hu⟩:∃u,u=t.ch[i]:=⟨_,rfl⟩;rw[<-hu]at g2 hmem hsa htk;have hul:=TT u;have ih:=IQ k u z8 z8;have ha:=λtl=>aFg (us:=q) (vs:=RG u) (id:=1) (tl:=tl) z8;refine ZE (a4 nG dM g1 g2) ?_;rcases Classical.em (RG u= [])with hx|hx
    ·
     refine wQ ?_;refine wR ?_;refine eT 2 (by simp only[kA,seval,dM,aB,qC,g1,g2,tN,hx,aT6,dQ]<;>with_reducible rfl) z7 ?_;refine oP (by simp only[kC,seval,aB,qC,g1,g2,tN,hx,aT6,dQ]<;>with_reducible rfl) (by simp only[kC,seval,aB,qC,g1,g2,tN,hx,aT6,dQ]) z7 aAz (ih _) ?_;refine nO (by simp only[kA,seval,lT,JZ,aB,qC,g1,g2,tN,hx,aT6,dQ]<;>with_reducible rfl) z7 ?_;exact⟨ZV,q,_,ZV,by simp only[jN,seval,aB,qC]<;>rfl,by rw[htk,hx,aT4];exact hg⟩
    ·
     have ha:=λtl fr H hH=>ha tl fr H hH hx;refine ZT 2 (a5 dM g1 g2 ha hx) ?_;refine ZP (a4 g1 g2 ha hx) aAz (ih _) ?_;refine ZX (a5 lT JZ g1 g2 (a2 ha hx)) ?_;exact⟨ZV,q++RG u,_,ZV,by simp only[jN,seval,aB,qC,aTi]<;>rfl,by rw[htk,hg]⟩
   ·intro q hg;rw[aUd]at hg;refine uA ?_;refine wQ ?_;refine wT ⟨.inr rfl,_,rfl, ?_⟩
    first|rw[hx]|rw[ES,if_neg h1,<-hg]
    rfl
set_option maxRecDepth 4000
structure aSa(t:At):Prop where
 h13:t.node.kind=13->2<=t.pars.length
 hl:t.pars.length<=1000000
 hp:t.path.length=t.pars.length
 hi:∀i (h:i<t.pars.length),t.pars[i].kind=13->2<=i
set_option maxRecDepth 4000
open Go.RowKit
theorem eR.sel{V:cS}{N:Nat}{a:Act}{T T':aD}(ht:eR V N a T)(h:∀i,T' i= .junk\/T' i=T i):eR V N a T':=⟨ht.size,ht.defers,λi hi=>by
 rcases h i with e|e
 ·rw[e];exact .junk _
 ·rw[e];exact ht.rel i hi⟩
theorem KH{T:aD}:∀(l:List (Nat×PV)),(∀p∈l,T p.1=p.2)->∀i,uD l i= .junk\/uD l i=T i
 | [],_,i=>.inl rfl
 | (d,v)::l,h,i=>by
  simp only[uD,oF]
  split
  ·rename_i e;subst e;exact .inr (h (i,v) z6).symm
  ·exact KH l (λp hp=>h p (by simp[hp])) i
section
variable{P:Program}{N nb:Nat}{ops:Array Oper}{C C':aE->Prop}{K:Exit->Act->World->Prop}{T:aD}{H:aC}
def X(P:Program)(N:Nat)(C:aE->Prop)(K:Exit->Act->World->Prop)(c:Code)(T:aD)(H:aC):Prop:=∀(E:aE) (a:Act),C E->E.Ok->E.H=H->eR E.view N a T->c.wp P K a E.w
def XL(P:Program)(N:Nat)(C:aE->Prop)(K:Exit->Act->World->Prop)(ops:Array Oper)(l:List Oper)(T:aD)(H:aC):Prop:=∀(E:aE) (a:Act),C E->E.Ok->E.H=H->eR E.view N a T->wpList P ops K l a E.w
def XP(N:Nat)(C:aE->Prop)(K:Act->World->Prop)(T:aD)(H:aC):Prop:=∀(E:aE) (a:Act),C E->E.Ok->E.H=H->eR E.view N a T->K a E.w
def UZ(nb:Nat)(C:aE->Prop):Prop:=∀E E':aE,C E->E.Ok->E.leN nb E'->E'.Ok->C E'
theorem yT{c:Code}(hC:UZ nb C)(h:eA P N nb c (λe T' H'=>XP N C (K e) T' H') T H):X P N C K c T H:=
 λE a hc ho hH ht=>wp_mono (h E a ho hH ht) λe a' w' ⟨E',T',h1,h2,h3,h4,h5⟩=>h1▸h5 E' a' (hC E E' hc ho h2 h3) h3 rfl h4
theorem aI4{c:Code}{Q:dG}(hC:UZ nb C)(h:eA P N nb c Q T H)(k:∀e T' H',Q e T' H'->XP N C (K e) T' H'):X P N C K c T H:=
 λE a hc ho hH ht=>wp_mono (h E a ho hH ht) λe a' w' ⟨E',T',h1,h2,h3,h4,h5⟩=>h1▸k e T' _ h5 E' a' (hC E E' hc ho h2 h3) h3 rfl h4
theorem mE{y:Code}(h:X P N C K y T H):XP N C ((Exit.then (λa w=>y.wp P K a w) K) .normal) T H:=h
theorem aG5{c:Code}(l:List (Nat×PV))(hl:∀p∈l,T p.1=p.2)(h:X P N C K c (uD l) H):X P N C K c T H:=λE a hc ho hH ht=>h E a hc ho hH (ht.sel (KH l hl))
theorem xZ{x y:Code}(h:X P N C (Exit.then (λa w=>y.wp P K a w) K) x T H):X P N C K (.seq x y) T H:=λE a hc ho hH ht=>wp_seq (h E a hc ho hH ht)
theorem RV{id:Nat}{c:Code}(h:X P N C (Exit.inBlock id K) c T H):X P N C K (.block id c) T H:=λE a hc ho hH ht=>wp_block (h E a hc ho hH ht)
theorem aCg{id:Nat}(h:XL P N C K ops ops.toList T H):X P N C K (.region id ops false) T H:=λE a hc ho hH ht=>wp_region_list (h E a hc ho hH ht)
theorem OW(h:XP N C (K .normal) T H):XL P N C K ops [] T H:=h
theorem aGu{o:Oper}{l:List Oper}{v:PV}(hC:UZ nb C)(hw:aU ops.toList T N o=some true)(hok:cK N o.op=true)(hv:eU P false H.length T H o.op=some (v,none))(h:XL P N C K ops l (bU T o.dst v) H):XL P N C K ops (o::l) T H:=by
 intro E a hc ho hH ht;subst hH;obtain⟨E',val,h1,h2,h3,h4,h5⟩:=sN (E:=E) ho ht hok (mt:=false) (fresh:=E.H.length) (v:=v) (eff:=none) hv (λ_ h=>by cases h);refine iS (cB ht hw) ?_;have hn:=h E' (a.put o.dst val) (hC E E' hc ho (h2.leN nb) h3) h3 h4 ((ht.mono h2.view).put o.dst h5);unfold Oper.wp;rcases h1 with h1| ⟨h1,rfl⟩
 ·rw[h1];exact hn
 ·rw[h1];exact hn
theorem TG{o:Oper}{l:List Oper}{f:FuncId}{args:List PV}{R:PV->aC->Prop}(hcall:eO T o.op=some (f,args))(hw:aU ops.toList T N o=some true)(hok:cK N o.op=true)(hgo:aP P f=true)
  (hc:∀(E:aE) (vargs:Array Value),C E->E.Ok->E.H=H->RL E.view vargs args->Calls P f vargs E.w λe w'=>∃(E':aE) (v:Value) (r:PV),e= .returned v/\E'.w=w'/\C' E'/\E'.Ok/\E.view.le E'.view/\aL E'.view v r/\R r E'.H)
  (h:∀r H',R r H'->XL P N C' K ops l (bU T o.dst r) H'):XL P N C K ops (o::l) T H:=by
 obtain⟨fo,xs,ts,pf,pc,hop,hf,hargs⟩:=iZ hcall;intro E a hCE ho hH ht;refine iS (cB ht hw) ?_;have hall:∀x∈o.op.operands.toList,aQ N x=true:=λx hx=>aTr.1 hok x hx;rw[hop]at hall;simp only[Op.operands,Call.operands]at hall;have hr:=aM ht fo (hall fo z6);rw[hf]at hr;obtain⟨first,caps,hval,h1,h2⟩:∃first caps,a.eval fo= .func (.func f) first caps/\RL E.view first pf/\RL E.view caps pc:=by
  generalize a.eval fo=y at hr;cases hr with
  |fn _ first caps _ _ hf hc hrf hrc=>exact⟨first,caps,rfl,⟨hf,hrf⟩,⟨hc,hrc⟩⟩
 have h3:=DL ht xs (aTr.2 λx hx=>hall x (by simp;right;simpa using hx));have hrl:=jU (jU h1 h3) h2;rw[hargs]at hrl;have hrun:(execOp a.eval o).run P E.w= .ok (.enter f (first++xs.map a.eval++caps)) E.w:=by
  unfold execOp;rw[hop];simp only[resolve,hval,Deferred.ofValue,aS4,aS7,aS5,invoke,oR hgo]
 unfold Oper.wp;rw[hrun];refine(hc E _ hCE ho hH hrl).mono ?_;rintro e w' ⟨E',v,r,rfl,rfl,h5,h6,h7,h8,h9⟩;exact h r E'.H h9 E' (a.put o.dst v) h5 h6 rfl ((ht.mono h7).put o.dst h8)
theorem aNj{c:Code}(I:Nat->aE->aD->Prop)(n0:Nat)(h0:∀E,C E->E.Ok->E.H=H->I n0 E T)
  (round:∀n E a T,I n E T->E.Ok->eR E.view N a T->c.wp P (Exit.then (λa' w'=>∃n' E' T',n'<n/\E'.w=w'/\I n' E' T'/\E'.Ok/\eR E'.view N a' T') K) a E.w):X P N C K (.loop c) T H:=by
 intro E a hc ho hH ht
 let J:Nat->Act->World->Prop:=λn a w=>∃E T,E.w=w/\I n E T/\E.Ok/\eR E.view N a T
 refine wp_loop (λa w=>∃n,J n a w) (λa w=>BN (λn=>J n a w)) ⟨n0,E,T,rfl,h0 E hc ho hH,ho,ht⟩ ?_;intro a1 w1 hJ;obtain⟨E1,T1,hw1,hI,ho1,ht1⟩:=tG hJ;have hr:=round _ E1 a1 T1 hI ho1 ht1;rw[hw1]at hr;refine wp_mono hr ?_;intro e a' w' hl;cases e with
 |normal=>
  obtain⟨n',E',T',hn,rfl,hI',ho',ht'⟩:=hl;have hJ':J n' a' E'.w:=⟨E',T',rfl,hI',ho',ht'⟩;exact⟨⟨n',hJ'⟩,Nat.lt_of_le_of_lt (yP hJ') hn⟩
 |_=>exact hl
end
theorem aCn{P:Program}{N:Nat}{H:aC}{f:FuncId}{fn:Func}{c:Code}{args:List PV}{R:PV->aC->Prop}(hf:P.funcs[f]? =some fn)(hb:fn.body=some c)(hN:fn.ntmps=N)(hl:args.length<=N)
  (h:jF H.length H->∀E0:aE,E0.Ok->E0.H=H->X P N (λE=>E0.leN H.length E) (λe a w=>∃E' T',E'.w=w/\E0.leN H.length E'/\E'.Ok/\eR E'.view N a T'/\(e= .normal\/e= .ret)/\∃r,fP P N T' E'.H fn.results.toList=some r/\R r E'.H) c (enter args) H):aN P f args H R:=by
 intro E vargs ho hH hrl;refine calls_of_wp hf hb (wp_mono (h (by have:=ho.hbel;rw[hH]at this;exact this) E ho hH E _ (.refl _ _) ho hH ⟨by simp[hrl.1,hN];omega,rfl,λi hi=> ?_⟩) ?_)
 ·rw[aSo,Array.getElem?_append];unfold enter
  by_cases hia:i<args.length
  ·rw[if_pos (by rw[hrl.1];exact hia),<-aSo,aTe,aTd hia];exact hrl.2 i hia
  ·rw[aTe,aSx z8];exact .junk _
 ·rintro e a w ⟨E',T',rfl,h2,h3,h4,he,r,hr,hR⟩;obtain⟨val,h5,h6⟩:=vA (P:=P) (fn:=fn) h3 h4 hr;rcases he with rfl|rfl
  ·exact⟨h4.defers,val,h5,E',val,r,rfl,rfl,(hH▸h2:E.leN E.H.length E').le,h3,h6,hR⟩
  ·exact⟨h4.defers,val,h5,E',val,r,rfl,rfl,(hH▸h2:E.leN E.H.length E').le,h3,h6,hR⟩
def aE.forget(E:aE)(id:Nat):aE:= {E with H:=E.H.set id (.glob 0 [])}
section
variable{E:aE}(h:E.Ok){id:Nat}{cs:List PV}(hi:E.H[id]? =some (.row cs))
include h hi
theorem aE.forget_get{x:Nat}{o:AObj}(hx:(E.forget id).H[x]? =some o):(x=id/\o= .glob 0 [])\/(x≠id/\E.H[x]? =some o):=by
 simp only[aE.forget]at hx
 by_cases e:x=id
 ·subst e;rw[aSz (lG hi)]at hx;exact .inl ⟨rfl,(Option.some.inj hx).symm⟩
 ·rw[aS0 (Ne.symm e)]at hx;exact .inr ⟨e,hx⟩
theorem aE.forget_view:E.view.le (E.forget id).view:=by
 refine⟨λa v hc=>hc,λx ⟨o,h1,h2⟩=> ?_,λx _=>rfl,λx t' hb ht=>⟨t', ?_, .inl rfl⟩⟩
 ·by_cases e:x=id
  ·subst e;exact⟨.glob 0 [],aSz (lG hi),z6⟩
  ·exact⟨o,by simp only[aE.forget];rw[aS0 (Ne.symm e)];exact h1,h2⟩
 ·simp only[aE.view]at ht⊢
  by_cases e:x=id
  ·subst e;rw[show(E.forget x).H[x]? =some (.glob 0 [])from aSz (lG hi)]at ht;cases ht
  ·rw[show(E.forget id).H[x]? =E.H[x]? by simp only[aE.forget];rw[aS0 (Ne.symm e)]]at ht;exact ht
theorem aE.forget_owns{b:Nat}(hb:(E.forget id).owns b):E.owns b/\b≠E.ρ id:=by
 rcases hb with⟨x,c,h1,h2⟩| ⟨x,n,sz,h1,h2⟩| ⟨x,k,h1,h2⟩
 ·rcases aE.forget_get h hi h1 with⟨_,e⟩| ⟨e,h1⟩
  ·cases e
  ·exact⟨.inl ⟨x,c,h1,h2⟩,λq=>e (h.injr x id c cs h1 hi (h2.trans q))⟩
 ·rcases aE.forget_get h hi h1 with⟨_,e⟩| ⟨e,h1⟩
  ·cases e
  ·refine⟨.inr (.inl ⟨x,n,sz,h1,h2⟩),λq=> ?_⟩;obtain⟨_,_,_,_,k1⟩:=h.bufs x n sz b h1 h2;obtain⟨_,_,_,_,_,k2⟩:=h.rows id cs hi;rw[q,k2]at k1;cases k1
 ·rcases aE.forget_get h hi h1 with⟨_,e⟩| ⟨e,h1⟩
  ·cases e
  ·refine⟨.inr (.inr ⟨x,k,h1,h2⟩),λq=> ?_⟩;obtain⟨⟨o,k1,k2⟩,_⟩:=h.objs.at_ x k h1;obtain⟨arr,elem,k3,_⟩:=h.rows id cs hi;have h2':E.ρ x=b:=h2;rw[h2',q,k3]at k1;injection k1 with k1;subst k1;exact k2.cells
theorem aE.forget_le:E.le (E.forget id):=⟨rfl,rfl,rfl,aSl _,λ_ _ _=>⟨rfl,rfl⟩,aE.forget_view h hi,λb _ hb=>(aE.forget_owns h hi hb).1⟩
theorem aE.Ok.forget:(E.forget id).Ok:=by
 have hv:=aE.forget_view h hi;refine⟨λx c hx=> ?_,λx n sz b hx hb=> ?_,λx x' c c' h1 h2 e=> ?_,λx x' n sz n' sz' b h1 h2 e1 e2=> ?_,λx b vs hx i hl=> ?_,h.objs.of hv λx k hx=> ?_⟩
 ·rcases aE.forget_get h hi hx with⟨_,e⟩| ⟨e,hx⟩
  ·cases e
  ·obtain⟨arr,elem,k1,k2,k3,k4⟩:=h.rows x c hx;exact⟨arr,elem,k1,k2,λi hl=>(k3 i hl).mono hv,k4⟩
 ·rcases aE.forget_get h hi hx with⟨_,e⟩| ⟨e,hx⟩
  ·cases e
  ·exact h.bufs x n sz b hx hb
 ·rcases aE.forget_get h hi h1 with⟨_,q⟩| ⟨_,h1⟩
  ·cases q
  rcases aE.forget_get h hi h2 with⟨_,q⟩| ⟨_,h2⟩
  ·cases q
  exact h.injr x x' c c' h1 h2 e
 ·rcases aE.forget_get h hi h1 with⟨_,q⟩| ⟨_,h1⟩
  ·cases q
  rcases aE.forget_get h hi h2 with⟨_,q⟩| ⟨_,h2⟩
  ·cases q
  exact h.injb x x' n sz n' sz' b h1 h2 e1 e2
 ·rcases aE.forget_get h hi hx with⟨_,e⟩| ⟨e,hx⟩
  ·injection e with _ e;subst e;simp at hl
  ·exact hv.cell _ _ (h.globs x b vs hx i hl)
 ·rcases aE.forget_get h hi hx with⟨_,e⟩| ⟨e,hx⟩
  ·cases e
  ·exact⟨hx,rfl,rfl,rfl⟩
end
def aE.turn(E:aE)(w':World):aE:= {E with w:=w',κ:=λk=>if k<E.w.heap.size then E.κ k else .mut}
structure aO7(own:Nat->Prop)(w w':World):Prop where
 os:w'.os=w.os
 tape:w'.tape=w.tape
 output:w'.output=w.output
 size:w.heap.size<=w'.heap.size
 block:∀k,k<w.heap.size->¬own k->w'.heap[k]? =w.heap[k]?
section
variable{E:aE}(h:E.Ok){own:Nat->Prop}{w':World}(ht:aO7 own E.w w')(hp:∀k,own k->¬E.owns k/\E.κ k= .mut)
include h ht hp
theorem aE.owns_lt{b:Nat}(hb:E.owns b):b<E.w.heap.size:=by
 rcases hb with⟨x,c,h1,h2⟩| ⟨x,n,sz,h1,h2⟩| ⟨x,k,h1,h2⟩
 ·rw[<-h2];exact h.rowBlock h1
 ·exact h.bufBlock h1 h2
 ·rw[<-h2];exact h.objs.lt h1
theorem aE.turn_keep{b:Nat}(hb:E.owns b):(E.turn w').w.heap[b]? =E.w.heap[b]? /\(E.turn w').κ b=E.κ b:=by
 have hl:=aE.owns_lt h ht hp hb;exact⟨ht.block b hl λq=>(hp b q).1 hb,by simp only[aE.turn,if_pos hl]⟩
theorem aE.turn_view:E.view.le (E.turn w').view:=by
 refine⟨λa v hc=> ?_,λx hb=>hb,λx _=>rfl,λx t' hb hx=>⟨t', ?_, .inl rfl⟩⟩
 ·simp only[aE.view]at hc⊢
  split at hc
  ·rename_i hs;have hl:=cell?_lt hc;have hn:¬own a.block:=λq=>by rw[(hp _ q).2]at hs;simp[rZ.stable]at hs
   rw[show(E.turn w').κ a.block=E.κ a.block by simp only[aE.turn,if_pos hl],if_pos hs];show w'.cell? a=some v;rw[cell?_congr (ht.block _ hl hn)];exact hc
  ·cases hc
 ·simp only[aE.view]at hx⊢;rw[<-hx];cases e:E.H[x]? with
  |none=>rw[show(E.turn w').H[x]? =E.H[x]? from rfl,e]
  |some o=>
   rw[show(E.turn w').H[x]? =E.H[x]? from rfl,e];cases o with
   |buf n sz=>
    simp only;rw[show(E.turn w').tb x=E.tb x from rfl];cases etb:E.tb x with
    |none=>rfl
    |some b=>rw[aSy,aSy,(aE.turn_keep h ht hp (.inr (.inl ⟨x,n,sz,e,etb⟩))).2]
   |_=>rfl
theorem aE.Ok.turn:(E.turn w').Ok:=by
 have hv:=aE.turn_view h ht hp;refine⟨λx c hx=> ?_,λx n sz b hx hb=> ?_,h.injr,h.injb,h.globs_of hv.cell λ_ _ _ h=>h,h.objs.of hv λx k hx=> ?_⟩
 ·obtain⟨arr,elem,k1,k2,k3,k4⟩:=h.rows x c hx;obtain⟨q1,q2⟩:=aE.turn_keep h ht hp (.inl ⟨x,c,hx,rfl⟩);exact⟨arr,elem,q1.trans k1,k2,λi hl=>(k3 i hl).mono hv,q2.trans k4⟩
 ·obtain⟨arr,elem,pos,k1,k2⟩:=h.bufs x n sz b hx hb;obtain⟨q1,q2⟩:=aE.turn_keep h ht hp (.inr (.inl ⟨x,n,sz,hx,hb⟩));exact⟨arr,elem,pos,q1.trans k1,q2.trans k2⟩
 ·obtain⟨q1,q2⟩:=aE.turn_keep h ht hp (.inr (.inr ⟨x,k,hx,rfl⟩));exact⟨hx,rfl,q1,q2⟩
theorem aE.turn_le{n:Nat}{E0:aE}(h0:E0.leN n E)(hn:∀k,own k->E0.w.heap.size<=k):E0.leN n (E.turn w'):=by
 have hv:=aE.turn_view h ht hp;refine⟨ht.os.trans h0.os,ht.tape.trans h0.tape,ht.output.trans h0.output,aSm h0.size ht.size,λb hb hno=> ?_,λa v hc=>hv.cell _ _ (h0.cell a v hc),λid hid hb=> ?_,λb hb ho=>h0.born b hb ho⟩
 ·obtain⟨e1,e2⟩:=h0.other b hb hno;have hl:=aSn hb h0.size;exact⟨by rw[<-e1];simp only[aE.turn,if_pos hl],by rw[<-e2];exact ht.block b hl λq=>absurd (hn b q) z8⟩
 ·obtain⟨b1,b2,b3⟩:=h0.bornv id hid hb;refine⟨b1,b2,λt' ht'=> ?_⟩;obtain⟨t,q1,q2⟩:=hv.tok id t' b1 ht';obtain⟨t0,q3,q4⟩:=b3 t q1;refine⟨t0,q3, ?_⟩;rcases q2 with rfl|q2
  ·exact q4
  ·rcases q4 with rfl|q4
   ·exact .inr q2
   ·exact .inr z8
end
end Go.Abs
