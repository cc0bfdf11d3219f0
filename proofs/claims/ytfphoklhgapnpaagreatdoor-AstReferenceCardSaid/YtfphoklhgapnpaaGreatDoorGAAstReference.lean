/- Part 6 of a proof of the law AstReference: Go data as trees, the walks of the functions that the law reaches, the plain laws. -/
import Derived.Tactics
import Derived.Laws.Cells
import Derived.Below
import Derived.ChangeKeysEq
open List renaming all_cons->aSd,all_eq_true->aTr,append_nil->aT4,cons_append->aSg,contains_iff_mem->aTz,getD_eq_getElem?_getD->aTe,getElem?_append_left->aSv,getElem?_append_right->aSw,getElem?_cons_succ->aS3,getElem?_cons_zero->aTo,getElem?_eq_getElem->aTd,getElem?_eq_none->aSx,getElem?_map->aTb,getElem?_set_ne->aS0,getElem?_set_self->aSz,getElem?_toArray->aTa,getElem_cons_zero->aSj,getElem_map->aSh,getElem_mem->aTk,length_append->aTi,length_cons->aS2,length_drop->aS8,length_eq_zero_iff->aTx,length_map->aSr,length_singleton->aSi,length_take->aS9,map_cons->aTg,mem_append->aTs,mem_cons->aTv,mem_map->aTq,mem_range->aT0,mem_singleton->aT2,nil_append->aT1,replicate->aS6,set_append_right->aTw
open Option renaming bind_some->aSy,getD_some->aSu,isSome_none->aTm,map_none->aTl,map_some->aS1
open Nat renaming le_refl->aSl,le_trans->aSm,lt_of_lt_of_le->aSn,lt_or_ge->aSk,mul_le_mul_right->aTj,zero_add->aTh,zero_le->aTn
open Go.Sem renaming run_bind->aS4,run_pure->aS7
open Array renaming getD_eq_getD_getElem?->aSo,getElem?_eq_getElem->aSt,getElem?_setIfInBounds_ne->aSq,getElem?_setIfInBounds_self_of_lt->aSp,getElem?_toList->aTf,length_toList->aSs
open Bool renaming and_eq_true->aSe,eq_iff_iff->aTu,false_eq_true->aTc,not_eq_true'->aSf,not_false->aTp,not_true->aTt,or_eq_true->aTy
open Go.Result renaming andThen_ok->aS5
set_option linter.unusedVariables false
set_option linter.unusedSimpArgs false
namespace Go
theorem z8{p:Prop}(h:p:=by omega):p:=h
theorem z7{p:Prop}(h:p:=by decide):p:=h
theorem z6{p:Prop}(h:p:=by simp):p:=h
end Go
namespace Go.Abs
inductive jM where
 |none|full|tok (id:Nat)
 deriving DecidableEq
inductive PV where
 |bool (b:Bool)
 |int (k:IntKind) (n:Int)
 |str (s:List UInt8)
 |nilp
 |optr (id off:Nat)
 |iptr (cs:List PV)
 |slice (es:List PV) (tl:jM)
 |msl (id off n c:Nat)
 |fn (f:Fn) (first caps:List PV)
 |nilfn
 |agg (cs:List PV)
 |tup (vs:List PV)
 |mapp (id:Nat)
 |nilmap
 |ifc (o:Option (TypeId×Value))
 |junk
def PV.cells:PV->List PV
 | .agg cs=>cs
 |p=> [p]
def PV.drop0:PV->PV
 | .slice es _=>.slice es .none
 |p=>p
def PV.drop1:PV->PV
 | .slice es _=>.slice es .none
 | .agg cs=>.agg (cs.map PV.drop0)
 |p=>p
structure WN where
 n:Nat
 sz:Nat
 loc : Option (Nat × Nat × Nat)     -- block, end of what is laid, end of the block
structure cS where
 cell:Addr->Option Value
 born:Nat->Prop
 rho:Nat->Nat
 tok:Nat->Option WN
def mV(V:cS)(tl:jM)(a:Option Addr)(len cap:Nat):Prop:=
 match tl with
 | .none=>True
 | .full=>cap=len
 | .tok id=>V.born id/\∀t,V.tok id=some t->len<=t.n/\
   (len=t.n->(cap=len/\(0<len->∃b off,a=some ⟨b,off,none⟩))\/∃b pos cend off,t.loc=some (b,pos,cend)/\a=some ⟨b,off,none⟩/\off+len*t.sz=pos/\off+cap*t.sz=cend)
inductive aL(V:cS):Value->PV->Prop
 |bool (b:Bool):aL V (.bool b) (.bool b)
 |int (k:IntKind) (n:Int):aL V (.int k n) (.int k n)
 |str (s:ByteArray):aL V (.string s) (.str s.data.toList)
 |nilp:aL V (.pointer none) .nilp
 |optr (id off:Nat) (h:V.born id):aL V (.pointer (some ⟨V.rho id,off,none⟩)) (.optr id off)
 |iptr (a:Addr) (cs:List PV) (vs:Nat->Value)
   (hc:∀j,j<cs.length->V.cell (a.add j)=some (vs j))
   (hr:∀j (h:j<cs.length),aL V (vs j) cs[j]):aL V (.pointer (some a)) (.iptr cs)
 |nils (tl:jM) (ht:mV V tl none 0 0):aL V (.slice none 0 0) (.slice [] tl)
 |slice (a:Addr) (len cap sz:Nat) (es:List PV) (tl:jM) (vs:Nat->Nat->Value)
   (hlen:es.length=len) (hcap:len<=cap) (hmax:cap<=maxLen)
   (hsz:∀i (h:i<es.length),(es[i].cells).length=sz)
   (hc:∀i j,i<len->j<sz->V.cell (a.add (i*sz+j))=some (vs i j))
   (hr:∀i j (hi:i<es.length) (hj:j<(es[i].cells).length),aL V (vs i j) ((es[i].cells)[j]))
   (ht:mV V tl (some a) len cap):aL V (.slice (some a) len cap) (.slice es tl)
 |msl (id off n c:Nat) (h:V.born id) (hmax:c<=maxLen):aL V (.slice (some ⟨V.rho id,off,none⟩) n c) (.msl id off n c)
 |fn (f:Fn) (first caps:Array Value) (pf pc:List PV) (hf:first.size=pf.length) (hc:caps.size=pc.length)
   (hrf:∀i (h:i<pf.length),aL V (first.getD i undef) pf[i])
   (hrc:∀i (h:i<pc.length),aL V (caps.getD i undef) pc[i]):aL V (.func f first caps) (.fn f pf pc)
 |nilfn:aL V .nilFunc .nilfn
 |agg (arr:Array Value) (cs:List PV) (hl:arr.size=cs.length)
   (hr:∀i (h:i<cs.length),aL V (arr.getD i undef) cs[i]):aL V (.agg arr) (.agg cs)
 |tup (arr:Array Value) (cs:List PV) (hl:arr.size=cs.length)
   (hr:∀i (h:i<cs.length),aL V (arr.getD i undef) cs[i]):aL V (.tuple arr) (.tup cs)
 |mapp (id:Nat) (h:V.born id):aL V (.map (some (V.rho id))) (.mapp id)
 |nilmap:aL V (.map none) .nilmap
 |nili:aL V .nilIface (.ifc none)
 |ifc (t:TypeId) (v:Value):aL V (.iface t v) (.ifc (some (t,v)))
 |junk (v:Value):aL V v .junk
structure cS.le(V V':cS):Prop where
 cell:∀a v,V.cell a=some v->V'.cell a=some v
 born:∀id,V.born id->V'.born id
 rho:∀id,V.born id->V'.rho id=V.rho id
 tok:∀id t',V.born id->V'.tok id=some t'->∃t,V.tok id=some t/\(t'=t\/t.n<t'.n)
theorem cS.le.refl(V:cS):V.le V:=⟨λ_ _ h=>h,λ_ h=>h,λ_ _=>rfl,λ_ t' _ h=>⟨t',h, .inl rfl⟩⟩
theorem cS.le.trans{A B C:cS}(h:A.le B)(k:B.le C):A.le C:=
 ⟨λa v x=>k.cell a v (h.cell a v x),λid x=>k.born id (h.born id x),
  λid x=>(k.rho id (h.born id x)).trans (h.rho id x),
  λid t' hb ht=>by
  obtain⟨t,h1,h2⟩:=k.tok id t' (h.born id hb) ht;obtain⟨t0,h3,h4⟩:=h.tok id t hb h1;refine⟨t0,h3, ?_⟩;rcases h2 with rfl|h2
  ·exact h4
  ·rcases h4 with rfl|h4
   ·exact .inr h2
   ·exact .inr z8⟩
theorem mV.mono{V V':cS}(h:V.le V'){tl a len cap}(ht:mV V tl a len cap):mV V' tl a len cap:=by
 cases tl with
 |none=>trivial
 |full=>exact ht
 |tok id=>
  obtain⟨hb,ht⟩:=ht;refine⟨h.born id hb,λt' e=> ?_⟩;obtain⟨t,e',h'⟩:=h.tok id t' hb e;have:=ht t e';rcases h' with rfl|h'
  ·exact this
  ·exact⟨z8,λq=>z8⟩
theorem aL.mono{V V':cS}(h:V.le V'){v:Value}{p:PV}(r:aL V v p):aL V' v p:=by
 induction r with
 |bool b=>exact .bool b
 |int k n=>exact .int k n
 |str s=>exact .str s
 |nilp=>exact .nilp
 |optr id off hb=>rw[<-h.rho id hb];exact .optr id off (h.born id hb)
 |iptr a cs vs hc _ ih=>exact .iptr a cs vs (λj hj=>h.cell _ _ (hc j hj)) ih
 |nils tl ht=>exact .nils tl (ht.mono h)
 |slice a len cap sz es tl vs hlen hcap hmax hsz hc _ ht ih=>
  exact .slice a len cap sz es tl vs hlen hcap hmax hsz (λi j hi hj=>h.cell _ _ (hc i j hi hj)) ih (ht.mono h)
 |msl id off n c hb hm=>rw[<-h.rho id hb];exact .msl id off n c (h.born id hb) hm
 |fn f first caps pf pc hf hc _ _ ih1 ih2=>exact .fn f first caps pf pc hf hc ih1 ih2
 |nilfn=>exact .nilfn
 |agg arr cs hl _ ih=>exact .agg arr cs hl ih
 |tup arr cs hl _ ih=>exact .tup arr cs hl ih
 |mapp id hb=>rw[<-h.rho id hb];exact .mapp id (h.born id hb)
 |nilmap=>exact .nilmap
 |nili=>exact .nili
 |ifc t v=>exact .ifc t v
 |junk v=>exact .junk v
theorem aL.drop0{V:cS}{v:Value}{p:PV}(r:aL V v p):aL V v p.drop0:=by
 cases r with
 |nils tl ht=>exact .nils .none trivial
 |slice a len cap sz es tl vs hlen hcap hmax hsz hc hr ht=>exact .slice a len cap sz es .none vs hlen hcap hmax hsz hc hr trivial
 |bool b=>exact .bool b
 |int k n=>exact .int k n
 |str s=>exact .str s
 |nilp=>exact .nilp
 |optr id off hb=>exact .optr id off hb
 |iptr a cs vs hc hr=>exact .iptr a cs vs hc hr
 |msl id off n c hb hm=>exact .msl id off n c hb hm
 |fn f first caps pf pc hf hc h1 h2=>exact .fn f first caps pf pc hf hc h1 h2
 |nilfn=>exact .nilfn
 |agg arr cs hl hr=>exact .agg arr cs hl hr
 |tup arr cs hl hr=>exact .tup arr cs hl hr
 |mapp id hb=>exact .mapp id hb
 |nilmap=>exact .nilmap
 |nili=>exact .nili
 |ifc t v=>exact .ifc t v
 |junk v=>exact .junk v
theorem aL.drop1{V:cS}{v:Value}{p:PV}(r:aL V v p):aL V v p.drop1:=by
 cases r with
 |nils tl ht=>exact .nils .none trivial
 |slice a len cap sz es tl vs hlen hcap hmax hsz hc hr ht=>exact .slice a len cap sz es .none vs hlen hcap hmax hsz hc hr trivial
 |bool b=>exact .bool b
 |int k n=>exact .int k n
 |str s=>exact .str s
 |nilp=>exact .nilp
 |optr id off hb=>exact .optr id off hb
 |iptr a cs vs hc hr=>exact .iptr a cs vs hc hr
 |msl id off n c hb hm=>exact .msl id off n c hb hm
 |fn f first caps pf pc hf hc h1 h2=>exact .fn f first caps pf pc hf hc h1 h2
 |nilfn=>exact .nilfn
 |agg arr cs hl hr=>exact .agg arr _ (by simpa using hl) λi h=>by simp only[aSh];exact(hr i (by simpa using h)).drop0
 |tup arr cs hl hr=>exact .tup arr cs hl hr
 |mapp id hb=>exact .mapp id hb
 |nilmap=>exact .nilmap
 |nili=>exact .nili
 |ifc t v=>exact .ifc t v
 |junk v=>exact .junk v
theorem aL.cells{V:cS}{v:Value}{p:PV}(r:aL V v p)(hj:p≠ .junk):
  v.cells.size=p.cells.length/\∀i (h:i<p.cells.length),aL V (v.cells.getD i undef) (p.cells[i]):=by
 cases r with
 |agg arr cs hl hr=>exact⟨hl,hr⟩
 |junk v=>exact(hj rfl).elim
 |_=>
  refine⟨rfl,λi h=> ?_⟩;simp only[PV.cells,aSi]at h;obtain rfl:i=0:=z8
  simp only[PV.cells,Value.cells,aSj]
  first
   |exact .bool _|exact .int _ _|exact .str _|exact .nilp|exact .optr _ _ ‹_› |exact .iptr _ _ _ ‹_› ‹_› |exact .nils _ ‹_›
   |exact .slice _ _ _ _ _ _ _ ‹_› ‹_› ‹_› ‹_› ‹_› ‹_› ‹_› |exact .msl _ _ _ _ ‹_› ‹_› |exact .fn _ _ _ _ _ ‹_› ‹_› ‹_› ‹_› |exact .nilfn
   |exact .tup _ _ ‹_› ‹_› |exact .mapp _ ‹_› |exact .nilmap|exact .nili|exact .ifc _ _
inductive sA where
 |iter (s:List UInt8) (pos:Nat)
 |mapo (es:List (Int×PV))
 |miter (im n:Nat) (seen:List Nat)
def mF(V:cS):List MapEntry->List (Int×PV)->Prop
 | [],[]=>True
 |m::ms,e::es=>m.key= .int .i64 e.1/\aL V m.val e.2/\mF V ms es
 |_,_=>False
def OR(V:cS):sA->Obj->Prop
 | .iter s pos,o=>∃z:ByteArray,o= .stringIter z pos/\z.data.toList=s
 | .mapo es,o=>∃(ms:List MapEntry) (clock:Nat),o= .map ms.toArray clock/\mF V ms es/\clock=ms.length/\ms.map (·.born)=List.range ms.length/\(es.map (·.1)).Nodup
 | .miter im n seen,o=>V.born im/\o= .mapIter (some (V.rho im)) n seen.toArray n
theorem mF.imp{V V':cS}:∀ {ms:List MapEntry} {es:List (Int×PV)},(∀v,∀e∈es,aL V v e.2->aL V' v e.2)->mF V ms es->mF V' ms es
 | [],[],_,h=>trivial
 |m::ms,e::es,hv,h=>⟨h.1,hv _ e z6 h.2.1,mF.imp (λv x hx=>hv v x (by simp[hx])) h.2.2⟩
 | [],_::_,_,h=>h.elim
 |_::_,[],_,h=>h.elim
theorem OR.mono{V V':cS}(h:V.le V'){k:sA}{o:Obj}(r:OR V k o):OR V' k o:=by
 cases k with
 |iter s pos=>exact r
 |mapo es=>
  obtain⟨ms,c,rfl,h1,h2⟩:=r;exact⟨ms,c,rfl,h1.imp λv e _ hv=>hv.mono h,h2⟩
 |miter im n seen=>exact⟨h.born im r.1,by rw[r.2,h.rho im r.1]⟩
theorem OR.cells{V:cS}{k:sA}{arr:Array Value}{e:TypeId}{f:Nat×Nat}(r:OR V k (.cells arr e f)):False:=by
 cases k with
 |iter s pos=>obtain⟨z,h,_⟩:=r;cases h
 |mapo es=>obtain⟨a,c,h,_⟩:=r;cases h
 |miter im n seen=>cases r.2
inductive AObj where
 |unborn
 |row (cs:List PV)
 |buf (n sz:Nat)
 |glob (b:Nat) (vs:List Value)
 |obj (k:sA)
inductive rZ where
 |fixed|mut|buf (pos cend:Nat)
def rZ.stable:rZ->Nat->Bool
 | .fixed,_=>true
 | .mut,_=>false
 | .buf pos _,o=>decide (o<pos)
structure aE where
 w:World
 κ:Nat->rZ
 ρ:Nat->Nat
 tb:Nat->Option Nat
 H:List AObj
def pV(H:List AObj)(id:Nat):Prop:=∃o,H[id]? =some o/\o≠ .unborn
def aE.view(E:aE):cS where
 cell a:=if(E.κ a.block).stable a.off then E.w.cell? a else none
 born id:=pV E.H id
 rho:=E.ρ
 tok id:=match E.H[id]? with
  |some (.buf n sz)=>some ⟨n,sz,(E.tb id).bind λb=>match E.κ b with
   | .buf pos cend=>some (b,pos,cend)
   |_=>none⟩
  |_=>none
def aE.ownsRow(E:aE)(b:Nat):Prop:=∃id cs,E.H[id]? =some (.row cs)/\E.ρ id=b
def aE.ownsBuf(E:aE)(b:Nat):Prop:=∃id n sz,E.H[id]? =some (.buf n sz)/\E.tb id=some b
def aE.ownsObj(E:aE)(b:Nat):Prop:=∃id k,E.H[id]? =some (.obj k)/\E.ρ id=b
def aE.owns(E:aE)(b:Nat):Prop:=E.ownsRow b\/E.ownsBuf b\/E.ownsObj b
structure aE.ObjsOk(E:aE):Prop where
 at_:∀id k,E.H[id]? =some (.obj k)->(∃o,E.w.heap[E.ρ id]? =some o/\OR E.view k o)/\E.κ (E.ρ id)= .mut
 inj:∀id id' k k',E.H[id]? =some (.obj k)->E.H[id']? =some (.obj k')->E.ρ id=E.ρ id'->id=id'
theorem aE.ObjsOk.lt{E:aE}(h:E.ObjsOk){id:Nat}{k:sA}(hi:E.H[id]? =some (.obj k)):E.ρ id<E.w.heap.size:=by
 obtain⟨⟨o,h1,_⟩,_⟩:=h.at_ id k hi;rcases aSk (E.ρ id) E.w.heap.size with hl|hl
 ·exact hl
 ·rw[Array.getElem?_eq_none hl]at h1;cases h1
theorem aE.ObjsOk.of{E E':aE}(h:E.ObjsOk)(hv:E.view.le E'.view)(hk:∀id k,E'.H[id]? =some (.obj k)->E.H[id]? =some (.obj k)/\E'.ρ id=E.ρ id/\E'.w.heap[E.ρ id]? =E.w.heap[E.ρ id]? /\E'.κ (E.ρ id)=E.κ (E.ρ id)):E'.ObjsOk:=by
 constructor
 ·intro id k hi;obtain⟨h1,h2,h3,h4⟩:=hk id k hi;obtain⟨⟨o,a1,a2⟩,a3⟩:=h.at_ id k h1;rw[h2,h3,h4];exact⟨⟨o,a1,a2.mono hv⟩,a3⟩
 ·intro id id' k k' h1 h2 e;obtain⟨a1,a2,_⟩:=hk id k h1;obtain⟨b1,b2,_⟩:=hk id' k' h2;rw[a2,b2]at e;exact h.inj id id' k k' a1 b1 e
theorem aE.ownsObj_of{E E':aE}(hk:∀id k,E'.H[id]? =some (.obj k)->E.H[id]? =some (.obj k)/\E'.ρ id=E.ρ id){b:Nat}(h:E'.ownsObj b):E.ownsObj b:=by
 obtain⟨id,k,h1,h2⟩:=h;obtain⟨a1,a2⟩:=hk id k h1;exact⟨id,k,a1,a2.symm.trans h2⟩
structure aE.Ok(E:aE):Prop where
 rows:∀id cs,E.H[id]? =some (.row cs)->∃arr elem,E.w.heap[E.ρ id]? =some (.cells arr elem (0,0))/\arr.size=cs.length/\
  (∀i (h:i<cs.length),aL E.view (arr.getD i undef) cs[i])/\E.κ (E.ρ id)= .mut
 bufs:∀id n sz b,E.H[id]? =some (.buf n sz)->E.tb id=some b->∃arr elem pos,E.w.heap[b]? =some (.cells arr elem (0,0))/\E.κ b= .buf pos arr.size
 injr:∀id id' cs cs',E.H[id]? =some (.row cs)->E.H[id']? =some (.row cs')->E.ρ id=E.ρ id'->id=id'
 injb:∀id id' n sz n' sz' b,E.H[id]? =some (.buf n sz)->E.H[id']? =some (.buf n' sz')->E.tb id=some b->E.tb id'=some b->id=id'
 globs:∀(id b:Nat) (vs:List Value),E.H[id]? =some (AObj.glob b vs)->∀i (h:i<vs.length),E.view.cell ⟨b,i,none⟩=some vs[i]
 objs:E.ObjsOk
theorem aE.Ok.globs_of{E E':aE}(ho:E.Ok)(hc:∀a v,E.view.cell a=some v->E'.view.cell a=some v)(h:∀(id b:Nat) (vs:List Value),E'.H[id]? =some (AObj.glob b vs)->E.H[id]? =some (.glob b vs)):
  ∀(id b:Nat) (vs:List Value),E'.H[id]? =some (AObj.glob b vs)->∀i (h:i<vs.length),E'.view.cell ⟨b,i,none⟩=some vs[i]:=
 λid b vs hi i hl=>hc _ _ (ho.globs id b vs (h id b vs hi) i hl)
structure aE.le(E E':aE):Prop where
 os:E'.w.os=E.w.os
 tape:E'.w.tape=E.w.tape
 output:E'.w.output=E.w.output
 size:E.w.heap.size<=E'.w.heap.size
 other:∀b,b<E.w.heap.size->¬E.owns b->E'.κ b=E.κ b/\E'.w.heap[b]? =E.w.heap[b]?
 view:E.view.le E'.view
 born:∀b,b<E.w.heap.size->E'.owns b->E.owns b
theorem aE.le.refl(E:aE):E.le E:=⟨rfl,rfl,rfl,aSl _,λ_ _ _=>⟨rfl,rfl⟩, .refl _,λ_ _=>id⟩
theorem aE.le.trans{A B C:aE}(h:A.le B)(k:B.le C):A.le C:=
 ⟨k.os.trans h.os,k.tape.trans h.tape,k.output.trans h.output,aSm h.size k.size,
  λb hb h1=>by
  obtain⟨e1,e2⟩:=h.other b hb h1;obtain⟨e3,e4⟩:=k.other b (aSn hb h.size) (λx=>h1 (h.born b hb x));exact⟨e3.trans e1,e4.trans e2⟩,
  h.view.trans k.view,
  λb hb x=>h.born b hb (k.born b (aSn hb h.size) x)⟩
structure eR(V:cS)(N:Nat)(a:Act)(T:Nat->PV):Prop where
 size:a.tmps.size=N
 defers:a.defers= []
 rel:∀i,i<N->aL V (a.tmps.getD i undef) (T i)
def oF(T:Nat->PV)(d:Nat)(v:PV):Nat->PV:=λi=>if i=d then v else T i
def bU(T:Nat->PV)(d:Option Nat)(v:PV):Nat->PV:=match d with|some d=>oF T d v|none=>T
theorem eR.mono{V V':cS}{N:Nat}{a:Act}{T:Nat->PV}(h:V.le V')(r:eR V N a T):eR V' N a T:=
 ⟨r.size,r.defers,λi hi=>(r.rel i hi).mono h⟩
theorem eR.put{V:cS}{N:Nat}{a:Act}{T:Nat->PV}(r:eR V N a T)(d:Option Nat){v:Value}{p:PV}(hv:aL V v p):
  eR V N (a.put d v) (bU T d p):=by
 cases d with
 |none=>exact r
 |some d=>
  refine⟨by simp[Act.put,r.size],r.defers,λi hi=> ?_⟩;simp only[Act.put,bU,oF]
  by_cases h:i=d
  ·subst h;rw[if_pos rfl];rw[aSo,aSp (by rw[r.size];exact hi)];exact hv
  ·rw[if_neg h];have:=r.rel i hi;rw[aSo]at this⊢;rw[aSq z8];exact this
def aT:Value->PV
 | .bool b=>.bool b
 | .int k n=>.int k n
 | .string s=>.str s.data.toList
 | .pointer none=>.nilp
 | .slice none 0 0=>.slice [] .full
 | .nilFunc=>.nilfn
 | .map none=>.nilmap
 | .nilIface=>.ifc none
 | .agg cs=>.agg (cs.toList.map fun
  | .bool b=>.bool b
  | .int k n=>.int k n
  | .string s=>.str s.data.toList
  | .pointer none=>.nilp
  | .slice none 0 0=>.slice [] .full
  | .nilFunc=>.nilfn
  | .map none=>.nilmap
  |_=>.junk)
 |_=>.junk
theorem dR(V:cS)(v:Value):aL V v (aT v):=by
 unfold aT
 split
 ·exact .bool _
 ·exact .int _ _
 ·exact .str _
 ·exact .nilp
 ·exact .nils _ rfl
 ·exact .nilfn
 ·exact .nilmap
 ·exact .nili
 ·rename_i cs;refine .agg _ _ z6 λi h=> ?_;simp only[aSr,aSs]at h;simp only[aSh,Array.getElem_toList];rw[aSo,aSt h,aSu];generalize cs[i]=c
  split
  ·exact .bool _
  ·exact .int _ _
  ·exact .str _
  ·exact .nilp
  ·exact .nils _ rfl
  ·exact .nilfn
  ·exact .nilmap
  ·exact .junk _
 ·exact .junk _
def bT(T:Nat->PV):Operand->PV
 | .tmp t=>T t
 | .const v=>aT v
 | .global _=>.junk
 | .func f=>.fn (.func f) [] []
def aQ(N:Nat):Operand->Bool
 | .tmp t=>decide (t<N)
 |_=>true
theorem aM{V:cS}{N:Nat}{a:Act}{T:Nat->PV}(r:eR V N a T)(x:Operand)(hx:aQ N x=true):aL V (a.eval x) (bT T x):=by
 cases x with
 |tmp t=>exact r.rel t (of_decide_eq_true hx)
 |const v=>exact dR V v
 |global g=>exact .junk _
 |func f=>exact .fn _ _ _ _ _ rfl rfl (λi h=>absurd h z6) (λi h=>absurd h z6)
theorem CB(a:Addr)(m n:Nat):(a.add m).add n=a.add (m+n):=by
 unfold Addr.add
 by_cases hm:m=0
 ·subst hm;simp
 ·by_cases hn:n=0
  ·subst hn;simp
  ·have:m+n≠0:=z8
   simp only[if_neg hm,if_neg hn,if_neg this,Nat.add_assoc]
theorem vS(a:Addr):a.add 0=a:=by simp[Addr.add]
theorem dD(b o n:Nat):(⟨b,o,none⟩:Addr).add n=⟨b,o+n,none⟩:=by
 unfold Addr.add
 by_cases hn:n=0
 ·subst hn;simp
 ·simp[hn]
theorem aE.cell_stable{E:aE}{a:Addr}{v:Value}(h:E.view.cell a=some v):E.w.cell? a=some v:=by
 simp only[aE.view]at h
 split at h
 ·exact h
 ·cases h
theorem aE.cell_of{E:aE}{a:Addr}{v:Value}(hs:(E.κ a.block).stable a.off=true)(h:E.w.cell? a=some v):E.view.cell a=some v:=by
 simp only[aE.view,hs,if_true,h]
theorem cell?_lt{w:World}{a:Addr}{v:Value}(h:w.cell? a=some v):a.block<w.heap.size:=by
 unfold World.cell? at h;rcases aSk a.block w.heap.size with hl|hl
 ·exact hl
 ·rw[Array.getElem?_eq_none hl]at h;cases h
theorem lS{α:Type}{l:List α}{i:Nat}{a:α}:(l.set i a).length=l.length:=z6
theorem heap_alloc(w:World)(o:Obj)(b:Nat)(h:b<w.heap.size):(w.alloc o).heap[b]? =w.heap[b]? :=Go.RowKit.Below.heap_alloc w o b h
theorem heap_alloc_new(w:World)(o:Obj):(w.alloc o).heap[w.heap.size]? =some o:=by
 show(w.heap.push o)[w.heap.size]? =_;simp
theorem cell?_congr{w w':World}{a:Addr}(h:w'.heap[a.block]? =w.heap[a.block]?):w'.cell? a=w.cell? a:=by
 unfold World.cell?;rw[h]
theorem FP{H:List AObj}{id:Nat}:pV (H++ [.unborn]) id↔pV H id:=by
 unfold pV;constructor
 ·rintro⟨o,h,ho⟩
  by_cases hl:id<H.length
  ·rw[aSv hl]at h;exact⟨o,h,ho⟩
  ·rw[aSw z8]at h;rw[List.getElem?_singleton]at h
   split at h
   ·cases h;exact(ho rfl).elim
   ·cases h
 ·rintro⟨o,h,ho⟩;have hl:id<H.length:=by
   rcases aSk id H.length with hl|hl
   ·exact hl
   ·rw[aSx hl]at h;cases h
  exact⟨o,by rw[aSv hl];exact h,ho⟩
theorem cE{H:List AObj}{id:Nat}{o:AObj}(ho:o≠ .unborn):(H++ [.unborn])[id]? =some o↔H[id]? =some o:=by
 constructor
 ·intro h
  by_cases hl:id<H.length
  ·rwa [aSv hl]at h
  ·rw[aSw z8]at h;rw[List.getElem?_singleton]at h
   split at h
   ·cases h;exact(ho rfl).elim
   ·cases h
 ·intro h;have hl:id<H.length:=by
   rcases aSk id H.length with hl|hl
   ·exact hl
   ·rw[aSx hl]at h;cases h
  rw[aSv hl];exact h
def aE.ext(E:aE):aE:= {E with H:=E.H++ [.unborn]}
theorem aE.ext_view_le(E:aE):E.view.le E.ext.view:=by
 refine⟨λa v h=>h,λid h=>FP.2 h,λ_ _=>rfl,λid t' hb h=>⟨t', ?_, .inl rfl⟩⟩;obtain⟨o,h1,h2⟩:=hb;have e:(E.H++ [.unborn])[id]? =E.H[id]? :=by
  rw[h1];exact(cE h2).2 h1
 simp only[aE.view,aE.ext,e]at h⊢;exact h
theorem aE.ext_le(E:aE):E.le E.ext:=by
 refine⟨rfl,rfl,rfl,aSl _,λ_ _ _=>⟨rfl,rfl⟩,E.ext_view_le,λb _=>Or.imp ?_ (Or.imp ?_ (aE.ownsObj_of (E:=E) (E':=E.ext) λid k h=>⟨(cE z6).1 h,rfl⟩))⟩
 ·rintro⟨id,cs,h,e⟩;exact⟨id,cs,(cE z6).1 h,e⟩
 ·rintro⟨id,n,sz,h,e⟩;exact⟨id,n,sz,(cE z6).1 h,e⟩
theorem aE.Ok.ext{E:aE}(h:E.Ok):E.ext.Ok:=by
 refine⟨?_, ?_, ?_, ?_,h.globs_of E.ext_view_le.cell λid b vs hi=>(cE z6).1 hi,h.objs.of E.ext_view_le λid k hi=>⟨(cE z6).1 hi,rfl,rfl,rfl⟩⟩
 ·intro id cs hi;obtain⟨arr,elem,h1,h2,h3,h4⟩:=h.rows id cs ((cE z6).1 hi);exact⟨arr,elem,h1,h2,λi hl=>(h3 i hl).mono E.ext_view_le,h4⟩
 ·intro id n sz b hi hb;exact h.bufs id n sz b ((cE z6).1 hi) hb
 ·intro id id' cs cs' h1 h2 e;exact h.injr id id' cs cs' ((cE z6).1 h1) ((cE z6).1 h2) e
 ·intro id id' n sz n' sz' b h1 h2 e e';exact h.injb id id' n sz n' sz' b ((cE z6).1 h1) ((cE z6).1 h2) e e'
theorem aE.Ok.rowBlock{E:aE}(h:E.Ok){id cs}(hi:E.H[id]? =some (.row cs)):E.ρ id<E.w.heap.size:=by
 obtain⟨arr,elem,h1,_⟩:=h.rows id cs hi;rcases aSk (E.ρ id) E.w.heap.size with hl|hl
 ·exact hl
 ·rw[Array.getElem?_eq_none hl]at h1;cases h1
theorem aE.Ok.bufBlock{E:aE}(h:E.Ok){id n sz b}(hi:E.H[id]? =some (.buf n sz))(hb:E.tb id=some b):b<E.w.heap.size:=by
 obtain⟨arr,elem,pos,h1,_⟩:=h.bufs id n sz b hi hb;rcases aSk b E.w.heap.size with hl|hl
 ·exact hl
 ·rw[Array.getElem?_eq_none hl]at h1;cases h1
def aE.drew(E:aE):aE:= {E with w:=E.w.drew}
theorem aE.drew_le(E:aE):E.le E.drew:=⟨rfl,rfl,rfl,aSl _,λ_ _ _=>⟨rfl,rfl⟩, .refl _,λ_ _=>id⟩
theorem aE.Ok.drew{E:aE}(h:E.Ok):E.drew.Ok:=⟨h.rows,h.bufs,h.injr,h.injb,h.globs,⟨h.objs.at_,h.objs.inj⟩⟩
def aE.newFixed(E:aE)(o:Obj):aE:=
 {E with w:=E.w.alloc o,κ:=λb=>if b=E.w.heap.size then .fixed else E.κ b}
theorem aE.newFixed_view{E:aE}(h:E.Ok)(o:Obj):E.view.le (E.newFixed o).view:=by
 refine⟨λa v hc=> ?_,λid hb=>hb,λ_ _=>rfl,λid t' hb ht=>⟨t', ?_, .inl rfl⟩⟩
 ·have hw:=aE.cell_stable hc;have hl:=cell?_lt hw;simp only[aE.view]at hc⊢
  split at hc
  ·rename_i hs;have hne:a.block≠E.w.heap.size:=z8
   simp only[aE.newFixed,if_neg hne,hs,if_true];rw[cell?_congr (heap_alloc _ _ _ hl)];exact hc
  ·cases hc
 ·simp only[aE.view,aE.newFixed]at ht⊢
  split at ht
  ·rename_i n sz hi;rw[<-ht];cases htb:E.tb id with
   |none=>rfl
   |some b=>
    have:=h.bufBlock hi htb;have hne:b≠E.w.heap.size:=z8
    simp only[aSy,if_neg hne]
  ·cases ht
theorem aE.newFixed_le{E:aE}(h:E.Ok)(o:Obj):E.le (E.newFixed o):=by
 refine⟨rfl,rfl,rfl,by simp[aE.newFixed],λb hb _=>⟨?_,heap_alloc _ _ _ hb⟩,E.newFixed_view h o,λb hb=>id⟩;have hne:b≠E.w.heap.size:=z8
 simp only[aE.newFixed,if_neg hne]
theorem aE.Ok.newFixed{E:aE}(h:E.Ok)(o:Obj):(E.newFixed o).Ok:=by
 refine⟨?_, ?_,h.injr,h.injb,h.globs_of (E.newFixed_view h o).cell λ_ _ _ hi=>hi,h.objs.of (E.newFixed_view h o) λid k hi=>⟨hi,rfl,heap_alloc _ _ _ (h.objs.lt hi),by simp only[aE.newFixed,if_neg (Nat.ne_of_lt (h.objs.lt hi))]⟩⟩
 ·intro id cs hi;have hl:=h.rowBlock hi;obtain⟨arr,elem,h1,h2,h3,h4⟩:=h.rows id cs hi;have hne:E.ρ id≠E.w.heap.size:=z8
  exact⟨arr,elem,by rw[<-h1];exact heap_alloc _ _ _ hl,h2,λi hl=>(h3 i hl).mono (E.newFixed_view h o),by simp only[aE.newFixed,if_neg hne];exact h4⟩
 ·intro id n sz b hi hb;have hl:=h.bufBlock hi hb;obtain⟨arr,elem,pos,h1,h2⟩:=h.bufs id n sz b hi hb;have hne:b≠E.w.heap.size:=z8
  exact⟨arr,elem,pos,by rw[<-h1];exact heap_alloc _ _ _ hl,by simp only[aE.newFixed,if_neg hne];exact h2⟩
theorem aK{H:List AObj}{id id':Nat}{o:AObj}(hl:id<H.length):(H.set id o)[id']? =if id'=id then some o else H[id']? :=by
 by_cases h:id'=id
 ·subst h;rw[if_pos rfl,aSz hl]
 ·rw[if_neg h,aS0 (λe=>h e.symm)]
def aE.newRow(E:aE)(id:Nat)(arr:Array Value)(elem:TypeId)(cs:List PV):aE:=
 {w:=E.w.alloc (.cells arr elem),κ:=λb=>if b=E.w.heap.size then .mut else E.κ b,ρ:=λi=>if i=id then E.w.heap.size else E.ρ i,tb:=E.tb,H:=E.H.set id (.row cs)}
section newRow
variable{E:aE}(h:E.Ok){id:Nat}(hi:E.H[id]? =some .unborn)(arr:Array Value)(elem:TypeId)(cs:List PV)
include h hi
theorem aE.newRow_view:E.view.le (E.newRow id arr elem cs).view:=by
 have hlen:id<E.H.length:=by
  rcases aSk id E.H.length with hl|hl
  ·exact hl
  ·rw[aSx hl]at hi;cases hi
 have hne:∀x,pV E.H x->x≠id:=by rintro x ⟨o,h1,h2⟩ rfl;rw[hi]at h1;cases h1;exact h2 rfl
 refine⟨λa v hc=> ?_,λx hb=> ?_,λx hb=> ?_,λx t' hb ht=>⟨t', ?_, .inl rfl⟩⟩
 ·have hl:=cell?_lt (aE.cell_stable hc);simp only[aE.view]at hc⊢
  split at hc
  ·rename_i hs;have hne:a.block≠E.w.heap.size:=z8
   simp only[aE.newRow,if_neg hne,hs,if_true];rw[cell?_congr (heap_alloc _ _ _ hl)];exact hc
  ·cases hc
 ·have:=hne x hb;obtain⟨o,h1,h2⟩:=hb;exact⟨o,by simp only[aE.newRow,aK hlen,if_neg this];exact h1,h2⟩
 ·simp only[aE.view,aE.newRow,if_neg (hne x hb)]
 ·have:=hne x hb;simp only[aE.view,aE.newRow,aK hlen,if_neg this]at ht⊢
  split at ht
  ·rename_i n sz hx;rw[<-ht];cases htb:E.tb x with
   |none=>rfl
   |some b=>
    have:=h.bufBlock hx htb;have hne:b≠E.w.heap.size:=z8
    simp only[aSy,if_neg hne]
  ·cases ht
theorem aE.newRow_le:E.le (E.newRow id arr elem cs):=by
 have hlen:id<E.H.length:=by
  rcases aSk id E.H.length with hl|hl
  ·exact hl
  ·rw[aSx hl]at hi;cases hi
 refine⟨rfl,rfl,rfl,by simp[aE.newRow],λb hb _=>⟨?_,heap_alloc _ _ _ hb⟩,aE.newRow_view h hi arr elem cs,λb hb=>Or.imp ?_ (Or.imp ?_ (aE.ownsObj_of λx k hx=> ?_))⟩
 ·have hne:b≠E.w.heap.size:=z8
  simp only[aE.newRow,if_neg hne]
 ·rintro⟨x,cs',h1,h2⟩;simp only[aE.newRow,aK hlen]at h1 h2
  split at h1
  ·rename_i e;rw[if_pos e]at h2;omega
  ·rename_i e;rw[if_neg e]at h2;exact⟨x,cs',h1,h2⟩
 ·rintro⟨x,n,sz,h1,h2⟩;simp only[aE.newRow,aK hlen]at h1 h2
  split at h1
  ·cases h1
  ·exact⟨x,n,sz,h1,h2⟩
 ·simp only[aE.newRow,aK hlen]at hx⊢
  split at hx
  ·cases hx
  ·rename_i e;exact⟨hx,by rw[if_neg e]⟩
theorem aE.Ok.newRow(hs:arr.size=cs.length)(hr:∀i (hl:i<cs.length),aL E.view (arr.getD i undef) cs[i]):(E.newRow id arr elem cs).Ok:=by
 have hlen:id<E.H.length:=by
  rcases aSk id E.H.length with hl|hl
  ·exact hl
  ·rw[aSx hl]at hi;cases hi
 have hv:=aE.newRow_view h hi arr elem cs;refine⟨?_, ?_, ?_, ?_,h.globs_of hv.cell (by intro x b vs hx;simp only[aE.newRow,aK hlen]at hx;split at hx<;>first|exact hx|cases hx),h.objs.of hv λx k hx=> ?_⟩
 rotate_left 4
 ·simp only[aE.newRow,aK hlen]at hx⊢
  split at hx
  ·cases hx
  ·rename_i e;have hl:=h.objs.lt hx;exact⟨hx,by rw[if_neg e],heap_alloc _ _ _ hl,by rw[if_neg (Nat.ne_of_lt hl)]⟩
 ·intro x cs' hx;simp only[aE.newRow,aK hlen]at hx
  split at hx
  ·rename_i e;cases hx;refine⟨arr,elem, ?_,hs,λi hl=>(hr i hl).mono hv, ?_⟩
   ·simp only[aE.newRow,if_pos e];exact heap_alloc_new _ _
   ·simp only[aE.newRow,if_pos e,if_true]
  ·rename_i e;have hl:=h.rowBlock hx;obtain⟨arr',elem',h1,h2,h3,h4⟩:=h.rows x cs' hx;have hne:E.ρ x≠E.w.heap.size:=z8
   refine⟨arr',elem', ?_,h2,λi hl=>(h3 i hl).mono hv, ?_⟩
   ·simp only[aE.newRow,if_neg e];rw[<-h1];exact heap_alloc _ _ _ hl
   ·simp only[aE.newRow,if_neg e,if_neg hne];exact h4
 ·intro x n sz b hx hb;simp only[aE.newRow,aK hlen]at hx hb
  split at hx
  ·cases hx
  ·have hl:=h.bufBlock hx hb;obtain⟨arr',elem',pos,h1,h2⟩:=h.bufs x n sz b hx hb;have hne:b≠E.w.heap.size:=z8
   exact⟨arr',elem',pos,by rw[<-h1];exact heap_alloc _ _ _ hl,by simp only[aE.newRow,if_neg hne];exact h2⟩
 ·intro x x' c c' h1 h2 e;simp only[aE.newRow,aK hlen]at h1 h2 e
  split at h1<;>split at h2
  ·omega
  ·rename_i a b;rw[if_pos a,if_neg b]at e;have:=h.rowBlock h2;omega
  ·rename_i a b;rw[if_neg a,if_pos b]at e;have:=h.rowBlock h1;omega
  ·rename_i a b;rw[if_neg a,if_neg b]at e;exact h.injr x x' c c' h1 h2 e
 ·intro x x' n sz n' sz' b h1 h2 e e';simp only[aE.newRow,aK hlen]at h1 h2 e e'
  split at h1<;>split at h2
  ·cases h1
  ·cases h1
  ·cases h2
  ·exact h.injb x x' n sz n' sz' b h1 h2 e e'
end newRow
def aE.setRow(E:aE)(id off:Nat)(v:Value)(cs:List PV)(p:PV):aE:=
 {E with w:=E.w.setCell ⟨E.ρ id,off,none⟩ v,H:=E.H.set id (.row (cs.set off p))}
theorem fU(w:World)(a:Addr)(u:Value)(k:Nat)(h:k≠a.block):(w.setCell a u).heap[k]? =w.heap[k]? :=
 Go.RowKit.Below.heap_setCell w a u k h
theorem oD{w:World}{b o:Nat}{u:Value}{arr elem fr}(h:w.heap[b]? =some (.cells arr elem fr)):
  (w.setCell ⟨b,o,none⟩ u).heap[b]? =some (.cells (arr.setIfInBounds o u) elem fr):=by
 simp only[World.setCell,Array.getElem?_modify,if_true,h,aS1];rfl
section setRow
variable{E:aE}(h:E.Ok){id:Nat}{cs:List PV}(hi:E.H[id]? =some (.row cs))(off:Nat){v:Value}{p:PV}
include h hi
theorem aE.setRow_view:E.view.le (E.setRow id off v cs p).view:=by
 have hlen:id<E.H.length:=by
  rcases aSk id E.H.length with hl|hl
  ·exact hl
  ·rw[aSx hl]at hi;cases hi
 obtain⟨arr,elem,h1,h2,h3,h4⟩:=h.rows id cs hi;refine⟨λa u hc=> ?_,λx hb=> ?_,λx hb=>rfl,λx t' hb ht=>⟨t', ?_, .inl rfl⟩⟩
 ·simp only[aE.view]at hc⊢
  split at hc
  ·rename_i hs;have hne:a.block≠E.ρ id:=by intro e;rw[e,h4]at hs;simp[rZ.stable]at hs
   simp only[aE.setRow,hs,if_true];rw[cell?_congr (fU _ _ _ _ hne)];exact hc
  ·cases hc
 ·obtain⟨o,a1,a2⟩:=hb
  by_cases e:x=id
  ·exact⟨.row (cs.set off p),by simp only[aE.setRow,aK hlen,if_pos e],z6⟩
  ·exact⟨o,by simp only[aE.setRow,aK hlen,if_neg e];exact a1,a2⟩
 ·by_cases e:x=id
  ·simp only[aE.view,aE.setRow,aK hlen,if_pos e]at ht;cases ht
  ·simp only[aE.view,aE.setRow,aK hlen,if_neg e]at ht⊢;exact ht
theorem aE.setRow_le:E.le (E.setRow id off v cs p):=by
 have hlen:id<E.H.length:=by
  rcases aSk id E.H.length with hl|hl
  ·exact hl
  ·rw[aSx hl]at hi;cases hi
 refine⟨rfl,rfl,rfl,by simp[aE.setRow,World.setCell],λb hb hn=>⟨rfl, ?_⟩,aE.setRow_view h hi off,λb hb=>Or.imp ?_ (Or.imp ?_ (aE.ownsObj_of λx k hx=> ?_))⟩
 ·exact fU _ _ _ _ (λe=>hn (.inl ⟨id,cs,hi,e.symm⟩))
 ·rintro⟨x,cs',a1,a2⟩;simp only[aE.setRow,aK hlen]at a1 a2
  split at a1
  ·rename_i e;exact⟨id,cs,hi,by rw[<-e];exact a2⟩
  ·exact⟨x,cs',a1,a2⟩
 ·rintro⟨x,n,sz,a1,a2⟩;simp only[aE.setRow,aK hlen]at a1 a2
  split at a1
  ·cases a1
  ·exact⟨x,n,sz,a1,a2⟩
 ·simp only[aE.setRow,aK hlen]at hx
  split at hx
  ·cases hx
  ·exact⟨hx,rfl⟩
theorem aE.Ok.setRow(hv:aL E.view v p):(E.setRow id off v cs p).Ok:=by
 have hlen:id<E.H.length:=by
  rcases aSk id E.H.length with hl|hl
  ·exact hl
  ·rw[aSx hl]at hi;cases hi
 have hle:=aE.setRow_view h hi off (v:=v) (p:=p);obtain⟨arr,elem,h1,h2,h3,h4⟩:=h.rows id cs hi;refine⟨?_, ?_, ?_, ?_,h.globs_of hle.cell (by intro x b vs hx;simp only[aE.setRow,aK hlen]at hx;split at hx<;>first|exact hx|cases hx),h.objs.of hle λx k hx=> ?_⟩
 rotate_left 4
 ·simp only[aE.setRow,aK hlen]at hx
  split at hx
  ·cases hx
  ·refine⟨hx,rfl,fU _ _ _ _ λe=> ?_,rfl⟩;obtain⟨⟨o,b1,b2⟩,_⟩:=h.objs.at_ x k hx;rw[show E.ρ x=E.ρ id from e,h1]at b1;cases b1;exact b2.cells
 ·intro x cs' hx;simp only[aE.setRow,aK hlen]at hx
  split at hx
  ·rename_i e;cases hx;subst e;refine⟨arr.setIfInBounds off v,elem,oD h1,by simp[h2],λi hl=> ?_,h4⟩;simp only[lS]at hl;rw[aSo]
   by_cases e:off=i
   ·subst e;rw[aSp z8];simp only[aSu,List.getElem_set_self];exact hv.mono hle
   ·rw[aSq e,List.getElem_set_ne e,<-aSo];exact(h3 i hl).mono hle
  ·rename_i e;obtain⟨arr',elem',b1,b2,b3,b4⟩:=h.rows x cs' hx;have hne:E.ρ x≠E.ρ id:=λq=>e (h.injr x id cs' cs hx hi q);exact⟨arr',elem',by rw[<-b1];exact fU _ _ _ _ hne,b2,λi hl=>(b3 i hl).mono hle,b4⟩
 ·intro x n sz b hx hb;simp only[aE.setRow,aK hlen]at hx hb
  split at hx
  ·cases hx
  ·obtain⟨arr',elem',pos,b1,b2⟩:=h.bufs x n sz b hx hb;have hne:b≠E.ρ id:=by intro q;rw[q,h4]at b2;cases b2
   exact⟨arr',elem',pos,by rw[<-b1];exact fU _ _ _ _ hne,b2⟩
 ·intro x x' c c' a1 a2 e;simp only[aE.setRow,aK hlen]at a1 a2 e;have fix:∀y d,(if y=id then some (AObj.row (cs.set off p))else E.H[y]?)=some (.row d)->∃d',E.H[y]? =some (.row d'):=by
   intro y d q
   split at q
   ·rename_i e;subst e;exact⟨cs,hi⟩
   ·exact⟨d,q⟩
  obtain⟨d,hd⟩:=fix _ _ a1;obtain⟨d',hd'⟩:=fix _ _ a2;exact h.injr x x' d d' hd hd' e
 ·intro x x' n sz n' sz' b a1 a2 e e';simp only[aE.setRow,aK hlen]at a1 a2 e e'
  split at a1<;>split at a2
  ·cases a1
  ·cases a1
  ·cases a2
  ·exact h.injb x x' n sz n' sz' b a1 a2 e e'
end setRow
def aE.newBuf(E:aE)(id n sz:Nat)(arr:Array Value)(elem:TypeId)(pos:Nat):aE:=
  {w:=E.w.alloc (.cells arr elem),κ:=λb=>if b=E.w.heap.size then .buf pos arr.size else E.κ b,ρ:=E.ρ,
    tb:=λi=>if i=id then some E.w.heap.size else E.tb i,H:=E.H.set id (.buf n sz)}
def aE.retok(E:aE)(id n sz:Nat):aE:=
  {E with tb:=λi=>if i=id then none else E.tb i,H:=E.H.set id (.buf n sz)}
section newBuf
variable{E:aE}(h:E.Ok){id n sz:Nat}(hi:E.H[id]? =some .unborn\/∃n0,E.H[id]? =some (.buf n0 sz)/\n0<n)(arr:Array Value)(elem:TypeId)(pos:Nat)
include h hi
omit h in
theorem tQ:id<E.H.length:=by
  rcases aSk id E.H.length with hl|hl
  · exact hl
  · rw[aSx hl]at hi;rcases hi with hi| ⟨_,hi,_⟩<;>cases hi
theorem aE.newBuf_view:E.view.le (E.newBuf id n sz arr elem pos).view:=by
  have hlen:=tQ hi;refine⟨λa v hc=> ?_,λx hb=> ?_,λx hb=>rfl,λx t' hb ht=> ?_⟩
  · have hl:=cell?_lt (aE.cell_stable hc)
    simp only[aE.view]at hc⊢
    split at hc
    · rename_i hs
      have hne:a.block≠E.w.heap.size:=z8
      simp only[aE.newBuf,if_neg hne,hs,if_true];rw[cell?_congr (heap_alloc _ _ _ hl)];exact hc
    · cases hc
  · obtain⟨o,h1,h2⟩:=hb
    by_cases e:x=id
    · exact⟨.buf n sz,by simp only[aE.newBuf,aK hlen,if_pos e],z6⟩
    · exact⟨o,by simp only[aE.newBuf,aK hlen,if_neg e];exact h1,h2⟩
  · by_cases e:x=id
    · subst e
      rcases hi with hu| ⟨n0,hu,hn⟩
      · obtain⟨o,h1,h2⟩:=hb
        rw[hu]at h1;cases h1;exact(h2 rfl).elim
      · refine⟨_,by simp only[aE.view,hu];rfl, .inr ?_⟩
        simp only[aE.view,aE.newBuf,aK hlen,if_true]at ht;cases ht;exact hn
    · refine⟨t', ?_, .inl rfl⟩
      simp only[aE.view,aE.newBuf,aK hlen,if_neg e]at ht⊢
      split at ht
      · rename_i n' sz' hx
        rw[<-ht];cases htb:E.tb x with
        |none=>rfl
        |some b=>
          have:=h.bufBlock hx htb;have hne:b≠E.w.heap.size:=z8
          simp only[aSy,if_neg hne]
      · cases ht
theorem aE.newBuf_le:E.le (E.newBuf id n sz arr elem pos):=by
  have hlen:=tQ hi;refine⟨rfl,rfl,rfl,by simp[aE.newBuf],λb hb _=>⟨?_,heap_alloc _ _ _ hb⟩,aE.newBuf_view h hi arr elem pos,λb hb=>Or.imp ?_ (Or.imp ?_ (aE.ownsObj_of λx k hx=> ?_))⟩
  · have hne:b≠E.w.heap.size:=z8
    simp only[aE.newBuf,if_neg hne]
  · rintro⟨x,cs',h1,h2⟩
    simp only[aE.newBuf,aK hlen]at h1 h2
    split at h1
    · cases h1
    · exact⟨x,cs',h1,h2⟩
  · rintro⟨x,m,s,h1,h2⟩
    simp only[aE.newBuf,aK hlen]at h1 h2
    split at h1
    · rename_i e;rw[if_pos e]at h2;cases h2;omega
    · rename_i e;rw[if_neg e]at h2;exact⟨x,m,s,h1,h2⟩
  · simp only[aE.newBuf,aK hlen]at hx
    split at hx
    · cases hx
    · exact⟨hx,rfl⟩
theorem aE.Ok.newBuf:(E.newBuf id n sz arr elem pos).Ok:=by
  have hlen:=tQ hi;have hv:=aE.newBuf_view h hi arr elem pos;refine⟨?_, ?_, ?_, ?_,h.globs_of hv.cell (by intro x b vs hx;simp only[aE.newBuf,aK hlen]at hx;split at hx<;>first|exact hx|cases hx),h.objs.of hv λx k hx=> ?_⟩
  rotate_left 4
  · simp only[aE.newBuf,aK hlen]at hx
    split at hx
    · cases hx
    · have hl:=h.objs.lt hx
      exact⟨hx,rfl,heap_alloc _ _ _ hl,by simp only[aE.newBuf,if_neg (Nat.ne_of_lt hl)]⟩
  · intro x cs' hx
    simp only[aE.newBuf,aK hlen]at hx
    split at hx
    · cases hx
    · have hl:=h.rowBlock hx
      obtain⟨arr',elem',h1,h2,h3,h4⟩:=h.rows x cs' hx;have hne:E.ρ x≠E.w.heap.size:=z8
      refine⟨arr',elem', ?_,h2,λi hl=>(h3 i hl).mono hv, ?_⟩
      · rw[<-h1];exact heap_alloc _ _ _ hl
      · simp only[aE.newBuf,if_neg hne];exact h4
  · intro x m s b hx hb
    simp only[aE.newBuf,aK hlen]at hx hb
    split at hx
    · rename_i e
      rw[if_pos e]at hb;cases hb;exact⟨arr,elem,pos,heap_alloc_new _ _,by simp only[aE.newBuf,if_true]⟩
    · rename_i e
      rw[if_neg e]at hb;have hl:=h.bufBlock hx hb;obtain⟨arr',elem',pos,h1,h2⟩:=h.bufs x m s b hx hb;have hne:b≠E.w.heap.size:=z8
      exact⟨arr',elem',pos,by rw[<-h1];exact heap_alloc _ _ _ hl,by simp only[aE.newBuf,if_neg hne];exact h2⟩
  · intro x x' c c' h1 h2 e
    simp only[aE.newBuf,aK hlen]at h1 h2 e
    split at h1<;>split at h2
    · cases h1
    · cases h1
    · cases h2
    · exact h.injr x x' c c' h1 h2 e
  · intro x x' n1 s1 n2 s2 b h1 h2 e e'
    simp only[aE.newBuf,aK hlen]at h1 h2 e e'
    split at h1<;>split at h2
    · omega
    · rename_i a b
      rw[if_pos a]at e;rw[if_neg b]at e';cases e;have:=h.bufBlock h2 e';omega
    · rename_i a b
      rw[if_neg a]at e;rw[if_pos b]at e';cases e';have:=h.bufBlock h1 e;omega
    · rename_i a b
      rw[if_neg a]at e;rw[if_neg b]at e';exact h.injb x x' _ _ _ _ _ h1 h2 e e'
end newBuf
section retok
variable{E:aE}(h:E.Ok){id n sz:Nat}(hi:E.H[id]? =some .unborn)
include h hi
omit h in
theorem aE.retok_view:E.view.le (E.retok id n sz).view:=by
  have hlen:id<E.H.length:=tQ (.inl hi) (n:=n) (sz:=sz);have hne:∀x,pV E.H x->x≠id:=by rintro x ⟨o,h1,h2⟩ rfl;rw[hi]at h1;cases h1;exact h2 rfl
  refine⟨λa v hc=>hc,λx hb=> ?_,λx hb=>rfl,λx t' hb ht=>⟨t', ?_, .inl rfl⟩⟩
  · have:=hne x hb
    obtain⟨o,h1,h2⟩:=hb;exact⟨o,by simp only[aE.retok,aK hlen,if_neg this];exact h1,h2⟩
  · simp only[aE.view,aE.retok,aK hlen,if_neg (hne x hb)]at ht⊢;exact ht
omit h in
theorem aE.retok_le:E.le (E.retok id n sz):=by
  have hlen:id<E.H.length:=tQ (.inl hi) (n:=n) (sz:=sz);refine⟨rfl,rfl,rfl,aSl _,λb hb _=>⟨rfl,rfl⟩,aE.retok_view hi,λb hb=>Or.imp ?_ (Or.imp ?_ (aE.ownsObj_of λx k hx=> ?_))⟩
  · rintro⟨x,cs',h1,h2⟩
    simp only[aE.retok,aK hlen]at h1 h2
    split at h1
    · cases h1
    · exact⟨x,cs',h1,h2⟩
  · rintro⟨x,m,s,h1,h2⟩
    simp only[aE.retok,aK hlen]at h1 h2
    split at h1
    · rename_i e;rw[if_pos e]at h2;cases h2
    · rename_i e;rw[if_neg e]at h2;exact⟨x,m,s,h1,h2⟩
  · simp only[aE.retok,aK hlen]at hx
    split at hx
    · cases hx
    · exact⟨hx,rfl⟩
theorem aE.Ok.retok:(E.retok id n sz).Ok:=by
  have hlen:id<E.H.length:=tQ (.inl hi) (n:=n) (sz:=sz);have hv:=aE.retok_view hi (n:=n) (sz:=sz);refine⟨?_, ?_, ?_, ?_,h.globs_of hv.cell (by intro x b vs hx;simp only[aE.retok,aK hlen]at hx;split at hx<;>first|exact hx|cases hx),h.objs.of hv λx k hx=> ?_⟩
  rotate_left 4
  · simp only[aE.retok,aK hlen]at hx
    split at hx
    · cases hx
    · exact⟨hx,rfl,rfl,rfl⟩
  · intro x cs' hx
    simp only[aE.retok,aK hlen]at hx
    split at hx
    · cases hx
    · obtain⟨arr',elem',h1,h2,h3,h4⟩:=h.rows x cs' hx
      exact⟨arr',elem',h1,h2,λi hl=>(h3 i hl).mono hv,h4⟩
  · intro x m s b hx hb
    simp only[aE.retok,aK hlen]at hx hb
    split at hx
    · rename_i e
      rw[if_pos e]at hb;cases hb
    · rename_i e
      rw[if_neg e]at hb;exact h.bufs x m s b hx hb
  · intro x x' c c' h1 h2 e
    simp only[aE.retok,aK hlen]at h1 h2 e
    split at h1<;>split at h2
    · cases h1
    · cases h1
    · cases h2
    · exact h.injr x x' c c' h1 h2 e
  · intro x x' n1 s1 n2 s2 b h1 h2 e e'
    simp only[aE.retok,aK hlen]at h1 h2 e e'
    split at h1<;>split at h2
    · omega
    · rename_i a _;rw[if_pos a]at e;cases e
    · rename_i _ a;rw[if_pos a]at e';cases e'
    · rename_i a b
      rw[if_neg a]at e;rw[if_neg b]at e';exact h.injb x x' _ _ _ _ _ h1 h2 e e'
end retok
def iE(w:World)(a:Addr):List Value->Nat->World
  | [],_=>w
  |v::vs,i=>iE (w.setCell (a.add i) v) a vs (i+1)
theorem BD(a:Addr):∀(vs:List Value) (i:Nat) (w:World),(iE w a vs i).os=w.os/\(iE w a vs i).tape=w.tape/\(iE w a vs i).output=w.output/\(iE w a vs i).heap.size=w.heap.size
  | [],_,_=>⟨rfl,rfl,rfl,rfl⟩
  |v::vs,i,w=>by
    obtain⟨h1,h2,h3,h4⟩:=BD a vs (i+1) (w.setCell (a.add i) v);exact⟨h1,h2,h3,by rw[iE,h4];simp[World.setCell]⟩
theorem UC(a:Addr)(n:Nat):(a.add n).block=a.block:=by unfold Addr.add;split<;>rfl
theorem lK(a:Addr)(k:Nat)(hk:k≠a.block):∀(vs:List Value) (i:Nat) (w:World),(iE w a vs i).heap[k]? =w.heap[k]?
  | [],_,_=>rfl
  |v::vs,i,w=>by
    rw[iE,lK a k hk vs (i+1)];exact fU _ _ _ _ (by rw[UC];exact hk)
theorem rG(b off:Nat)(elem:TypeId)(fr:Nat×Nat):∀(vs:List Value) (i:Nat) (w:World) (arr:Array Value),w.heap[b]? =some (.cells arr elem fr)->∃arr',(iE w ⟨b,off,none⟩ vs i).heap[b]? =some (.cells arr' elem fr)/\arr'.size=arr.size/\∀o,o<arr.size->arr'[o]? =if off+i<=o/\o<off+i+vs.length then vs[o- (off+i)]? else arr[o]?
  | [],i,w,arr,h=>⟨arr,h,rfl,λo ho=>by rw[if_neg z6]⟩
  |v::vs,i,w,arr,h=>by
    have h1:(w.setCell ((⟨b,off,none⟩:Addr).add i) v).heap[b]? =some (.cells (arr.setIfInBounds (off+i) v) elem fr):=by
      rw[dD];exact oD h
    obtain⟨arr',h2,h3,h4⟩:=rG b off elem fr vs (i+1) _ _ h1;refine⟨arr',h2,by simpa using h3,λo ho=> ?_⟩;rw[h4 o (by simpa using ho)]
    by_cases e:o=off+i
    · subst e
      rw[if_neg z8,if_pos (by simp only[aS2];omega),aSp ho];simp
    · by_cases c:off+(i+1)<=o/\o<off+(i+1)+vs.length
      · rw[if_pos c,if_pos (by simp only[aS2];omega)]
        rw[show o- (off+i)=(o- (off+(i+1)))+1 by omega,aS3]
      · rw[if_neg c,if_neg (by simp only[aS2];omega),aSq (λq=>e q.symm)]
def Value.isCell:Value->Bool
  | .agg _| .tuple _=>false
  |_=>true
theorem EW{P:Program}{w:World}{a:Addr}{v:Value}(hv:Value.isCell v=true)(hc:∃u,w.cell? a=some u)(hf:w.frozen? a=false):(store a v).run P w= .ok () (w.setCell a v):=by
  obtain⟨u,hu⟩:=hc;cases v<;>first| (simp[Value.isCell]at hv;done)|simp[store,Sem.run,hu,hf]
theorem EI{w:World}{a:Addr}{arr elem}(h:w.heap[a.block]? =some (.cells arr elem (0,0))):w.frozen? a=false:=by
  unfold World.frozen?;rw[h];simp
theorem kZ{w:World}{b o:Nat}{arr elem fr}(h:w.heap[b]? =some (.cells arr elem fr)):w.cell? ⟨b,o,none⟩=arr[o]? :=by
  unfold World.cell?;simp[h]
theorem uM{P:Program}(b off:Nat)(elem:TypeId):∀(vs:List Value) (i:Nat) (w:World) (arr:Array Value),w.heap[b]? =some (.cells arr elem (0,0))->(∀v∈vs,Value.isCell v=true)->off+i+vs.length<=arr.size->(storeCells ⟨b,off,none⟩ vs i).run P w= .ok () (iE w ⟨b,off,none⟩ vs i)
  | [],i,w,arr,_,_,_=>rfl
  |v::vs,i,w,arr,h,hv,hl=>by
    simp only[aS2]at hl;have h1:(w.setCell ((⟨b,off,none⟩:Addr).add i) v).heap[b]? =some (.cells (arr.setIfInBounds (off+i) v) elem (0,0)):=by
      rw[dD];exact oD h
    have hs:(store ((⟨b,off,none⟩:Addr).add i) v).run P w= .ok () (w.setCell ((⟨b,off,none⟩:Addr).add i) v):=by
      refine EW (hv v z6) ⟨arr[off+i], ?_⟩ ?_
      · rw[dD,kZ h,aSt]
      · rw[dD];exact EI h
    simp only[storeCells,aS4,hs,aS5];exact uM b off elem vs (i+1) _ _ h1 (λu hu=>hv u (by simp[hu])) (by simp;omega)
def vM:TypeDesc->Bool
 | .struct _| .array _ _=>true
 |_=>false
structure TI where
 agg:Bool
 sz:Nat
 bytes:Nat
def cV(P:Program)(t:TypeId):Option TI:=
 match P.underlying t,P.info? t with
 |some d,some i=>some ⟨vM d,i.size,i.bytes⟩
 |_,_=>none
def oG(P:Program)(t:TypeId):Option (List (Nat×TI)):=
 match P.underlying t with
 |some (.struct fs)=>fs.toList.mapM λf=>(cV P f.type).map λi=>(f.offset,i)
 |_=>none
def dH(P:Program)(t:TypeId):Option (TypeId×TI):=
 match P.underlying t with
 |some (.slice e)=>(cV P e).map λi=>(e,i)
 |_=>none
def dC(P:Program)(t:TypeId):Option PV:=((P.info? t).bind (·.zero)).map aT
def mM(P:Program)(t:TypeId):Bool:=match P.underlying t with|some (.pointer _)=>true|_=>false
def MX(P:Program)(t:TypeId):Bool:=match P.underlying t with|some .string=>true|_=>false
def aBt(P:Program)(t:TypeId):Bool:=match P.underlying t with|some .bool=>true|_=>false
def GN(P:Program)(t:TypeId):Option IntKind:=match P.underlying t with|some (.int k)=>some k|_=>none
def PV.isCell:PV->Bool
 | .agg _| .tup _| .junk=>false
 |_=>true
def PV.isJunk:PV->Bool
 | .junk=>true
 |_=>false
def PV.fits(i:TI)(p:PV):Bool:=decide (p.cells.length=i.sz)&&(match p with| .agg _=>i.agg| .tup _| .junk=>false|_=> !i.agg)
def iQ(i:TI)(H:List AObj):PV->Option PV
 | .optr id off=>match H[id]? with
  |some (.row cs)=>if i.agg then(if off+i.sz<=cs.length then some (.agg (((cs.drop off).take i.sz).map PV.drop1))else none)else cs[off]?
  |_=>none
 | .iptr cs=>if i.agg then(if i.sz<=cs.length then some (.agg (cs.take i.sz))else none)else cs[0]?
 |_=>none
def cY(cs:List PV)(off:Nat)(vs:List PV):List PV:=
 match vs with
 | []=>cs
 |v::vs=>cY (cs.set off v) (off+1) vs
def mY(i:TI)(H:List AObj)(a:PV)(v:PV):Option (Nat×AObj):=
 match a with
 | .optr id off=>match H[id]? with
  |some (.row cs)=>if off+i.sz<=cs.length/\v.cells.length=i.sz/\v.cells.all PV.isCell=true then some (id, .row (cY cs off v.cells))else none
  |_=>none
 |_=>none
def dW(P:Program)(op:BinOp)(xt:TypeId)(x y:PV):Option PV:=
 match x,y with
 | .int k a, .int k' b=>if k=k' then
   match op with
   | .add=>some (.int k (k.wrap (a+b)))
   | .sub=>some (.int k (k.wrap (a-b)))
   | .mul=>some (.int k (k.wrap (a*b)))
   | .quo=>if b=0 then none else some (.int k (k.wrap (a.tdiv b)))
   | .rem=>if b=0 then none else some (.int k (a.tmod b))
   | .eql=>some (.bool (decide (a=b)))
   | .neq=>some (.bool (!decide (a=b)))
   | .lss=>some (.bool (decide (a<b)))
   | .leq=>some (.bool (decide (a<=b)))
   | .gtr=>some (.bool (decide (a>b)))
   | .geq=>some (.bool (decide (a>=b)))
   |_=>none
  else none
 | .bool a, .bool b=>if aBt P xt then
   match op with
   | .eql=>some (.bool (a==b))
   | .neq=>some (.bool (!(a==b)))
   |_=>none
  else none
 | .str a, .str b=>
   match op with
   | .eql=>some (.bool (decide (a=b)))
   | .neq=>some (.bool (!decide (a=b)))
   | .add=>if a.length+b.length<=maxLen then some (.str (a++b))else none
   | .lss=>some (.bool (Op.bytesLess a b))
   |_=>none
 | .nilp, .nilp=>if mM P xt then(match op with| .eql=>some (.bool true)| .neq=>some (.bool false)|_=>none)else none
 | .iptr _, .nilp| .optr _ _, .nilp=>if mM P xt then(match op with| .eql=>some (.bool false)| .neq=>some (.bool true)|_=>none)else none
 |_,_=>none
def aun(op:UnOp)(x:PV):Option PV:=
 match op,x with
 | .not, .bool b=>some (.bool !b)
 | .neg, .int k n=>some (.int k (k.wrap (0-n)))
 |_,_=>none
def BT(i:PV)(n:Nat):Option Nat:=
 match i with
 | .int _ i=>if 0<=i/\i<n then some i.toNat else none
 |_=>none
def BQ(i:PV)(n:Nat):Option Nat:=
 match i with
 | .int _ i=>if 0<=i/\i<=n then some i.toNat else none
 |_=>none
def kW(T:Nat->PV)(i:Option Operand)(n d:Nat):Option Nat:=
 match i with
 |some x=>BQ (bT T x) n
 |none=>some d
def kO(P:Program)(T:Nat->PV)(t:TypeId)(x:PV)(lo hi mx:Option Operand):Option PV:=
 match x with
 | .str s=>if MX P t=true/\mx.isNone=true then
   (kW T hi s.length s.length).bind λh=>(kW T lo h 0).bind λl=>some (.str ((s.take h).drop l))
  else none
 | .slice es tl=>match dH P t with
  |some (e,i)=>if(∀e∈es,e.cells.length=i.sz)then
   match mx with
   |none=>(kW T hi es.length es.length).bind λh=>(kW T lo h 0).bind λl=>
     some (.slice ((es.take h).drop l) (if h=es.length/\tl= .full then .full else if hi.isNone=true/\lo.isNone=true then tl else .none))
   |some m=>match hi with
    |none=>none
    |some h=>(BQ (bT T m) es.length).bind λm=>(BQ (bT T h) m).bind λh=>(kW T lo h 0).bind λl=>
     some (.slice ((es.take h).drop l) (if h=m then .full else .none))
   else none
  |none=>none
 |_=>none
def YN(fl:List (Nat×TI))(f:Nat)(x:PV):Option PV:=
 match fl[f]?,x with
 |some (off,i), .agg cs=>if off+i.sz<=cs.length then(if i.agg then some (.agg ((cs.drop off).take i.sz))else cs[off]?)else none
 |_,_=>none
def uP(fl:List (Nat×TI))(f:Nat)(x:PV):Option PV:=
 match fl[f]? with
 |some (off,i)=>if i.sz=0 then none else
  match x with
  | .optr id o=>some (.optr id (o+off))
  | .iptr cs=>some (.iptr (cs.drop off))
  |_=>none
 |_=>none
def mA(ti:TypeId×TI)(x i:PV):Option PV:=
 match x with
 | .slice es _=>(BT i es.length).bind λk=>(es[k]?).bind λe=>if e.cells.length=ti.2.sz then some (.iptr e.cells)else none
 | .msl id off n _=>(BT i n).bind λk=>some (.optr id (off+k*ti.2.sz))
 |_=>none
def oE(fl:List (Nat×TI))(T:Nat->PV):List PV->List (Nat×Operand)->Option (List PV)
 |cs,[]=>some cs
 |cs,(f,x)::rest=>match fl[f]? with
  |some (off,i)=>if(bT T x).isJunk=false/\(bT T x).cells.length=i.sz/\off+i.sz<=cs.length then oE fl T (cY cs off ((bT T x).cells.map PV.drop1)) rest else none
  |none=>none
def fH(i:TI)(T:Nat->PV):List PV->List (Nat×Operand)->Option (List PV)
 |es,[]=>some es
 |es,(k,x)::rest=>if(bT T x).fits i=true/\k<es.length then fH i T (es.set k (bT T x).drop1) rest else none
abbrev qD:=Option (Nat×AObj)
def qD.app(e:qD)(H:List AObj):List AObj:=
 match e with
 |some (id,o)=>H.set id o
 |none=>H
def dQ(i:TI)(fresh:Nat)(H:List AObj)(s x:PV):Option (PV×qD):=
 match s,x with
 | .slice es tl, .slice xs _=>
  if xs= []then some (.slice es tl,none)
  else if(es.length+xs.length)*i.bytes<=2^47/\es.length+xs.length<=maxLen/\(∀e∈es,e.cells.length=i.sz)/\(∀e∈xs,e.cells.length=i.sz/\e.cells.all PV.isCell=true)/\0<i.sz then
   match tl with
   | .full=>some (.slice (es++xs) (.tok fresh),some (fresh, .buf (es.length+xs.length) i.sz))
   | .tok id=>match H[id]? with
    |some (.buf n sz)=>if n=es.length/\sz=i.sz then some (.slice (es++xs) (.tok id),some (id, .buf (es.length+xs.length) sz))else none
    |_=>none
   | .none=>none
  else none
 |_,_=>none
def lE(mt:Bool)(z:PV)(i:TI)(fresh:Nat)(l c:PV):Option (PV×qD):=
 match l,c with
 | .int .i64 l, .int .i64 c=>
  if 0<=l/\l<=c/\c*i.bytes<=2^47/\c<=maxLen/\z.fits i=true/\0<i.sz then
   if mt then some (.msl fresh 0 l.toNat c.toNat,some (fresh, .row ((aS6 c.toNat z.cells).flatten)))
   else if l=c then some (.slice (aS6 l.toNat z.drop1) .full,none)
   else some (.slice (aS6 l.toNat z.drop1) (.tok fresh),some (fresh, .buf l.toNat i.sz))
  else none
 |_,_=>none
def sP(p:PV):Option (PV×qD):=some (p,none)
def dX(P:Program)(fresh:Nat)(T:Nat->PV)(H:List AObj)(b:Builtin)(xs:List Operand)(ts:List TypeId):Option (PV×qD):=
 match b,xs,ts with
 | .len,[x],[t]=>match bT T x with
  | .slice es _=>if(dH P t).isSome then some (.int .i64 es.length,none)else none
  | .msl _ _ n _=>if(dH P t).isSome then some (.int .i64 n,none)else none
  | .str s=>if MX P t then some (.int .i64 s.length,none)else none
  |_=>none
 | .min,[x,y],_=>match bT T x,bT T y with
  | .int .i64 a, .int .i64 b=>some (.int .i64 (min a b),none)
  |_,_=>none
 | .max,[x,y],_=>match bT T x,bT T y with
  | .int .i64 a, .int .i64 b=>some (.int .i64 (max a b),none)
  |_,_=>none
 | .append,[x,y],[t,u]=>(dH P t).bind λei=>(dC P ei.1).bind λz=>if(dH P u).isSome=true/\z.fits ei.2=true then dQ ei.2 fresh H (bT T x) (bT T y)else none
 |_,_,_=>none
def aB1(P:Program)(t:TypeId):Option TypeId:=
 match P.underlying t with
 |some (.map k e)=>match P.underlying k with
  |some (.int .i64)=>some e
  |_=>none
 |_=>none
def tZ:List (Int×PV)->Int->Nat->Option (Nat×PV)
 | [],_,_=>none
 |e::es,n,j=>if e.1=n then some (j,e.2)else tZ es n (j+1)
def aPe(es:List (Int×PV))(n:Int):Option PV:=(tZ es n 0).map (·.2)
def aCt(es:List (Int×PV))(n:Int)(v:PV):List (Int×PV):=
 match tZ es n 0 with
 |some (i,_)=>es.set i (n,v)
 |none=>es++ [(n,v)]
def EX(ok:Bool)(z:PV):Option PV->PV
 |some v=>if ok then .tup [v, .bool true]else v
 |none=>if ok then .tup [z, .bool false]else z
def lC(P:Program)(H:List AObj)(t:TypeId)(x k:PV)(ok:Bool):Option PV:=
 match x,k with
 | .mapp id, .int .i64 n=>match H[id]? with
  |some (.obj (.mapo es))=>(aB1 P t).bind λe=>(dC P e).bind λz=>some (EX ok z (aPe es n))
  |_=>none
 |_,_=>none
def mH(P:Program)(H:List AObj)(t:TypeId)(x k v:PV):Option (Nat×AObj):=
 match x,k with
 | .mapp id, .int .i64 n=>match H[id]? with
  |some (.obj (.mapo es))=>if(aB1 P t).isSome=true then some (id, .obj (.mapo (aCt es n v.drop1)))else none
  |_=>none
 |_,_=>none
def eU(P:Program)(mt:Bool)(fresh:Nat)(T:Nat->PV)(H:List AObj):Op->Option (PV×qD)
 | .move x| .assign x=>some (bT T x,none)
 | .pick c a b=>match bT T c with
  | .bool c=>some (if c then bT T a else bT T b,none)
  |_=>none
 | .alloc e=>(dC P e).bind λz=>if z.isJunk then none else some (.optr fresh 0,some (fresh, .row z.cells))
 | .box e x=>if(bT T x).isJunk then none else some (.optr fresh 0,some (fresh, .row (bT T x).cells))
 | .build t ps=>(oG P t).bind λfl=>(dC P t).bind λz=>if z.isJunk then none else(oE fl T z.cells ps.toList).bind λcs=>some (.agg cs,none)
 | .buildSlice t n ps=>(dH P t).bind λei=>(dC P ei.1).bind λz=>
   if z.fits ei.2=true/\0<ei.2.sz/\n*ei.2.sz<=2^24 then(fH ei.2 T (aS6 n z) ps.toList).bind λes=>some (.slice es .full,none)else none
 | .load t a=>(cV P t).bind λi=>(iQ i H (bT T a)).bind sP
 | .store t a v=>(cV P t).bind λi=>(mY i H (bT T a) (bT T v)).bind λe=>some (.junk,some e)
 | .nilCheck x=>match bT T x with
  | .optr id o=>some (.optr id o,none)
  | .iptr cs=>some (.iptr cs,none)
  |_=>none
 | .binOp op xt x y _=>(dW P op xt (bT T x) (bT T y)).bind sP
 | .unOp op _ x=>(aun op (bT T x)).bind sP
 | .convert s d x=>match bT T x,GN P d with
  | .int _ n,some k=>if(GN P s).isSome then some (.int k (k.wrap n),none)else none
  |_,_=>none
 | .makeFunc f first caps=>some (.fn f (first.toList.map λx=>(bT T x).drop1) (caps.toList.map λx=>(bT T x).drop1),none)
 | .makeSlice t l c=>(dH P t).bind λei=>(dC P ei.1).bind λz=>lE mt z ei.2 fresh (bT T l) (bT T c)
 | .slice t x lo hi mx=>(kO P T t (bT T x) lo hi mx).bind sP
 | .fieldAddr s x f=>(oG P s).bind λfl=>(uP fl f (bT T x)).bind sP
 | .field s x f=>(oG P s).bind λfl=>(YN fl f (bT T x)).bind sP
 | .indexAddr t x i=>(dH P t).bind λei=>(mA ei (bT T x) (bT T i)).bind sP
 | .index t x i=>match bT T x with
  | .str s=>if MX P t then(BT (bT T i) s.length).bind λk=>(s[k]?).bind λb=>some (.int .u8 b.toNat,none)else none
  |_=>none
 | .extract t i=>match bT T t with
  | .tup vs=>(vs[i]?).bind sP
  |_=>none
 | .lookup t x k ok=>(lC P H t (bT T x) (bT T k) ok).bind sP
 | .mapUpdate t x k v=>(mH P H t (bT T x) (bT T k) (bT T v)).bind λe=>some (.junk,some e)
 | .makeMap t none=>(aB1 P t).bind λ_=>some (.mapp fresh,some (fresh, .obj (.mapo [])))
 | .call c=>match c.callee with
  | .builtin b=>dX P fresh T H b c.args.toList c.argTypes.toList
  |_=>none
 |_=>none
theorem DK{P:Program}{w:World}:(program).run P w= .ok P w:=rfl
theorem aS{P:Program}{w:World}{t:TypeId}{d:TypeDesc}(h:P.underlying t=some d):(underlying t).run P w= .ok d w:=by
 simp only[underlying,aS4,DK,aS5,h,aS7]
theorem pB{P:Program}{w:World}{t:TypeId}{i:TypeInfo}(h:P.info? t=some i):(typeInfo t).run P w= .ok i w:=by
 simp only[typeInfo,aS4,DK,aS5,h,aS7]
theorem dK{P:Program}{w:World}{t:TypeId}{i:TypeInfo}(h:P.info? t=some i):(sizeOf t).run P w= .ok i.size w:=by
 simp only[sizeOf,aS4,pB h,aS5,aS7]
theorem jH{P:Program}{w:World}{t:TypeId}{i:TypeInfo}{z:Value}(h:P.info? t=some i)(hz:i.zero=some z):(zeroValue t).run P w= .ok z w:=by
 simp only[zeroValue,aS4,pB h,aS5,hz,aS7]
theorem CG{P:Program}{w:World}{t:TypeId}{d:TypeDesc}(h:P.underlying t=some d):(isAgg t).run P w= .ok (vM d) w:=by
 simp only[isAgg,aS4,aS h,aS5];cases d<;>rfl
theorem cA{P:Program}{t:TypeId}{i:TI}(h:cV P t=some i):∃d f,P.underlying t=some d/\P.info? t=some f/\i=⟨vM d,f.size,f.bytes⟩:=by
 unfold cV at h
 split at h
 ·rename_i d f h1 h2;exact⟨d,f,h1,h2,by cases h;rfl⟩
 ·cases h
theorem eQ{P:Program}{t:TypeId}{z:PV}(h:dC P t=some z):∃f v,P.info? t=some f/\f.zero=some v/\z=aT v:=by
 unfold dC at h;cases h1:P.info? t with
 |none=>rw[h1]at h;cases h
 |some f=>
  rw[h1]at h;cases h2:f.zero with
  |none=>simp[h2]at h
  |some v=>simp[h2]at h;exact⟨f,v,rfl,h2,h.symm⟩
theorem dE{P:Program}{t e:TypeId}{i:TI}(h:dH P t=some (e,i)):P.underlying t=some (.slice e)/\cV P e=some i:=by
 unfold dH at h
 split at h
 ·rename_i e' h1;cases h2:cV P e' with
  |none=>simp[h2]at h
  |some j=>simp[h2]at h;obtain⟨rfl,rfl⟩:=h;exact⟨h1,h2⟩
 ·cases h
structure fT(P:Program)(E:aE)(s:Sem Next)(v:PV)(e:qD):Prop where
 out:∃E' val,(s.run P E.w= .ok (.value val) E'.w\/(s.run P E.w= .ok .skip E'.w/\val=undef))/\E.le E'/\E'.Ok/\E'.H=e.app E.H/\aL E'.view val v
theorem fT.val{P:Program}{E:aE}(h:E.Ok){s:Sem Next}{val:Value}{v:PV}(hs:s.run P E.w= .ok (.value val) E.w)(hv:aL E.view val v):fT P E s v none:=
 ⟨E,val, .inl hs, .refl E,h,rfl,hv⟩
theorem nZ{V:cS}{arr:Array Value}{cs:List PV}(hr:∀i (h:i<cs.length),aL V (arr.getD i undef) cs[i]):
  ∀i (h:i<(cs.map PV.drop1).length),aL V (arr.getD i undef) (cs.map PV.drop1)[i]:=by
 intro i h;simp only[aSh];exact(hr i (by simpa using h)).drop1
inductive Cells(E:aE):Addr->List PV->Prop
 |row {id off:Nat} {cs:List PV} (h:E.H[id]? =some (.row cs)):Cells E ⟨E.ρ id,off,none⟩ (cs.drop off)
 |imm {a:Addr} {cs:List PV} (h:aL E.view (.pointer (some a)) (.iptr cs)):Cells E a cs
theorem Cells.get{E:aE}(ho:E.Ok){a:Addr}{cs:List PV}(h:Cells E a cs):∀j (hj:j<cs.length),∃v,E.w.cell? (a.add j)=some v/\aL E.view v cs[j]:=by
 intro j hj;cases h with
 | @row id off cs h=>
  obtain⟨arr,elem,h1,h2,h3,h4⟩:=ho.rows id _ h;simp only[aS8]at hj;refine⟨arr.getD (off+j) undef, ?_, ?_⟩
  ·rw[dD,kZ h1,aSo,aSt z8];rfl
  ·rw[List.getElem_drop];exact h3 _ _
 |imm h=>
  cases h with
  |iptr _ _ vs hc hr=>exact⟨vs j,aE.cell_stable (hc j hj),hr j hj⟩
theorem Cells.loadCells{P:Program}{E:aE}(ho:E.Ok){a:Addr}{cs:List PV}(h:Cells E a cs){n:Nat}(hn:n<=cs.length):
  ∃arr,(loadCells a n).run P E.w= .ok arr E.w/\arr.size=n/\∀i (h:i<(cs.take n).length),aL E.view (arr.getD i undef) (cs.take n)[i]:=by
 let f:Nat->Value:=λj=>(E.w.cell? (a.add j)).getD undef
 have hf:∀j,j<n->E.w.cell? (a.add j)=some (f j):=by
  intro j hj;obtain⟨v,hv,_⟩:=h.get ho j z8;simp only[f,hv,aSu]
 refine⟨_,run_loadCells E.w a n f hf,z6,λi hi=> ?_⟩;simp only[aS9]at hi;obtain⟨v,hv,hr⟩:=h.get ho i z8;rw[List.getElem_take,aSo];simp only[aTa,aTb,List.getElem?_range (by omega:i<n),aS1,aSu];have:f i=v:=by simp only[f,hv,aSu]
 rw[this];exact hr
theorem Cells.loadVar{P:Program}{E:aE}(ho:E.Ok){a:Addr}{cs:List PV}(h:Cells E a cs){t:TypeId}{i:TI}(hi:cV P t=some i):
  (i.agg=true->i.sz<=cs.length->∃arr,(loadVar t a).run P E.w= .ok (.agg arr) E.w/\aL E.view (.agg arr) (.agg (cs.take i.sz)))/\
  (i.agg=false->∀p,cs[0]? =some p->∃v,(loadVar t a).run P E.w= .ok v E.w/\aL E.view v p):=by
 obtain⟨d,f,h1,h2,rfl⟩:=cA hi;constructor
 ·intro hagg hsz;simp only at hagg hsz;obtain⟨arr,e1,e2,e3⟩:=h.loadCells (P:=P) ho hsz;refine⟨arr, ?_, .agg _ _ (by rw[e2];simp;omega) e3⟩;simp only[Go.loadVar,aS4,CG h1,aS5,hagg,if_true,dK h2,e1,aS7]
 ·intro hagg p hp;simp only at hagg;have hl:0<cs.length:=by
   rcases Nat.eq_zero_or_pos cs.length with e|e
   ·rw[aSx z8]at hp;cases hp
   ·exact e
  obtain⟨v,hv,hr⟩:=h.get ho 0 hl;rw[vS]at hv;refine⟨v, ?_, ?_⟩
  ·simp only[Go.loadVar,aS4,CG h1,aS5,hagg,aTc,if_false,run_load,hv]
  ·rw[aTd hl]at hp;cases hp;exact hr
theorem aL.optr_inv{V:cS}{v:Value}{id off:Nat}(h:aL V v (.optr id off)):v= .pointer (some ⟨V.rho id,off,none⟩)/\V.born id:=by
 cases h;exact⟨rfl,‹_›⟩
section ops
variable{P:Program}{E:aE}{N:Nat}{a:Act}{T:Nat->PV}(ho:E.Ok)(ht:eR E.view N a T)
include ho ht
theorem CV{t:TypeId}{x:Operand}(hx:aQ N x=true){i:TI}(hi:cV P t=some i){v:PV}(hv:iQ i E.H (bT T x)=some v):
  ∃val,(Instr.loadAt t (a.eval x)).run P E.w= .ok val E.w/\aL E.view val v:=by
 have hr:=aM ht x hx;generalize a.eval x=ax at hr;generalize bT T x=px at hr hv;unfold iQ at hv
 split at hv
 ·rename_i id off;obtain⟨rfl,hb⟩:=hr.optr_inv
  split at hv
  ·rename_i cs hcs;have hc:Cells E ⟨E.ρ id,off,none⟩ (cs.drop off):=.row hcs;obtain⟨h1,h2⟩:=hc.loadVar (P:=P) ho hi
   split at hv
   ·rename_i hagg
    split at hv
    ·rename_i hl;cases hv;obtain⟨arr,e1,e2⟩:=h1 hagg (by simp;omega);refine⟨_,by simpa[Instr.loadAt,Instr.sureAddr,aE.view]using e1, ?_⟩;cases e2 with
     |agg _ _ hl hr=>exact .agg _ _ (by simpa using hl) (nZ hr)
    ·cases hv
   ·rename_i hagg;obtain⟨v',e1,e2⟩:=h2 (by simpa using hagg) v (by rw[List.getElem?_drop];simpa using hv);exact⟨_,by simpa[Instr.loadAt,Instr.sureAddr,aE.view]using e1,e2⟩
  ·cases hv
 ·rename_i cs;cases hr with
  |iptr ad cs vs hc hr=>
   have hcl:Cells E ad cs:=.imm (.iptr ad cs vs hc hr);obtain⟨h1,h2⟩:=hcl.loadVar (P:=P) ho hi
   split at hv
   ·rename_i hagg
    split at hv
    ·rename_i hl;cases hv;obtain⟨arr,e1,e2⟩:=h1 hagg hl;exact⟨_,by simpa[Instr.loadAt,Instr.sureAddr]using e1,e2⟩
    ·cases hv
   ·rename_i hagg;obtain⟨v',e1,e2⟩:=h2 (by simpa using hagg) v hv;exact⟨_,by simpa[Instr.loadAt,Instr.sureAddr]using e1,e2⟩
 ·cases hv
end ops
theorem aL.isCell{V:cS}{v:Value}{p:PV}(h:aL V v p)(hp:p.isCell=true):Value.isCell v=true:=by
 cases h<;>first|rfl| (simp[PV.isCell]at hp;done)
theorem aL.not_junk_cells{V:cS}{v:Value}{p:PV}(h:aL V v p)(hj:p.isJunk=false):
  v.cells.size=p.cells.length/\∀i (h:i<p.cells.length),aL V (v.cells.getD i undef) (p.cells[i]):=
 h.cells (by rintro rfl;cases hj)
theorem IT{H:List AObj}{id:Nat}{a b:AObj}:(H.set id a).set id b=H.set id b:=by
 simp
theorem FO{H:List AObj}{id:Nat}{o:AObj}(h:H[id]? =some o):H.set id o=H:=by
 apply List.ext_getElem?;intro j
 by_cases e:id=j
 ·subst e;have hl:id<H.length:=by
   rcases aSk id H.length with hl|hl
   ·exact hl
   ·rw[aSx hl]at h;cases h
  rw[aSz hl,h]
 ·rw[aS0 e]
theorem lG{α:Type}{H:List α}{id:Nat}{o:α}(h:H[id]? =some o):id<H.length:=by
 rcases aSk id H.length with hl|hl
 ·exact hl
 ·rw[aSx hl]at h;cases h
theorem vC{P:Program}{id off:Nat}:∀(vs:List Value) (ps:List PV) (i:Nat) (E:aE) (cs:List PV),E.Ok->E.H[id]? =some (.row cs)->vs.length=ps.length->
  (∀j (h:j<ps.length),aL E.view (vs.getD j undef) ps[j])->ps.all PV.isCell=true->off+i+vs.length<=cs.length->
  ∃E',(storeCells ⟨E.ρ id,off,none⟩ vs i).run P E.w= .ok () E'.w/\E.le E'/\E'.Ok/\E'.H=E.H.set id (.row (cY cs (off+i) ps))
 | [],ps,i,E,cs,ho,hi,hl,hr,hc,hb=>by
  obtain rfl:ps= []:=by cases ps with|nil=>rfl|cons _ _=>simp at hl
  exact⟨E,rfl, .refl E,ho,by rw[cY,FO hi]⟩
 |v::vs,ps,i,E,cs,ho,hi,hl,hr,hc,hb=>by
  match ps,hl with
  |p::ps,hl=>
   simp only[aS2]at hl hb hr;have hv:aL E.view v p:=hr 0 z8;simp only[aSd,aSe]at hc;obtain⟨arr,elem,h1,h2,h3,h4⟩:=ho.rows id cs hi;have hle:=aE.setRow_le ho hi (off+i) (v:=v) (p:=p);have hok:=aE.Ok.setRow ho hi (off+i) hv;have hrun:(store ((⟨E.ρ id,off,none⟩:Addr).add i) v).run P E.w= .ok () (E.setRow id (off+i) v cs p).w:=by
    rw[EW (hv.isCell hc.1) ⟨arr[off+i]'z8, ?_⟩ ?_]
    ·rw[dD];rfl
    ·rw[dD,kZ h1,aSt]
    ·rw[dD];exact EI h1
   obtain⟨E',e1,e2,e3,e4⟩:=vC (P:=P) (id:=id) (off:=off) vs ps (i+1) (E.setRow id (off+i) v cs p) (cs.set (off+i) p) hok
    (by simp only[aE.setRow];exact aSz (lG hi)) z8
    (λj hj=>by have:=hr (j+1) z8;simp only[List.getD_cons_succ,List.getElem_cons_succ]at this;exact this.mono hle.view) hc.2 (by simp;omega)
   refine⟨E', ?_,hle.trans e2,e3, ?_⟩
   ·simp only[storeCells,aS4,hrun,aS5];exact e1
   ·rw[e4];simp only[aE.setRow,IT,cY,Nat.add_assoc]
section ops
variable{P:Program}{E:aE}{N:Nat}{a:Act}{T:Nat->PV}(ho:E.Ok)(ht:eR E.view N a T)
include ho ht
theorem LL{t:TypeId}{x y:Operand}(hx:aQ N x=true)(hy:aQ N y=true){i:TI}(hi:cV P t=some i){e:Nat×AObj}
  (hv:mY i E.H (bT T x) (bT T y)=some e):
  ∃E',(Instr.storeAt t (a.eval x) (a.eval y)).run P E.w= .ok () E'.w/\E.le E'/\E'.Ok/\E'.H=E.H.set e.1 e.2:=by
 have hr:=aM ht x hx;have hr':=aM ht y hy;generalize a.eval x=ax at hr;generalize bT T x=px at hr hv;generalize a.eval y=ay at hr';generalize bT T y=py at hr' hv;unfold mY at hv
 split at hv
 ·rename_i id off;obtain⟨rfl,hb⟩:=hr.optr_inv
  split at hv
  ·rename_i cs hcs
   split at hv
   ·rename_i hl;obtain⟨hl1,hl2,hl3⟩:=hl;cases hv;obtain⟨d,f,h1,h2,rfl⟩:=cA hi;simp only at hl1 hl2;have hj:py.isJunk=false:=by
     cases py<;>first|rfl| (simp[PV.cells,PV.isCell]at hl3;done)
    obtain⟨c1,c2⟩:=hr'.not_junk_cells hj;obtain⟨E',e1,e2,e3,e4⟩:=vC (P:=P) (id:=id) (off:=off) ay.cells.toList py.cells 0 E cs ho hcs (by simpa using c1)
     (λj hj=>by
      have:=c2 j hj;rw[aSo]at this;rw[aTe,aTf];exact this) hl3 (by simp[c1];omega)
    refine⟨E', ?_,e2,e3,by rw[e4];rfl⟩;simp only[Instr.storeAt,Instr.sureAddr,aS4,aS7,aS5,storeVar,dK h2];rw[if_neg (by rw[c1];simp[hl2])];exact e1
   ·cases hv
  ·cases hv
 ·cases hv
omit ht in
theorem LC{t:TypeId}{fresh:Nat}(hf:E.H[fresh]? =some .unborn){z:PV}(hz:dC P t=some z)(hj:z.isJunk=false):
  ∃E' val,(Instr.alloc t true (.tuple #[])).run P E.w= .ok val E'.w/\E.le E'/\E'.Ok/\E'.H=E.H.set fresh (.row z.cells)/\aL E'.view val (.optr fresh 0):=by
 obtain⟨f,v,h1,h2,rfl⟩:=eQ hz;obtain⟨c1,c2⟩:=(dR E.view v).not_junk_cells hj;refine⟨E.newRow fresh v.cells t (aT v).cells, .pointer (some ⟨E.w.heap.size,0,none⟩), ?_,aE.newRow_le ho hf _ _ _,aE.Ok.newRow ho hf _ _ _ c1 c2,rfl, ?_⟩
 ·simp only[Instr.alloc,aS4,jH h1 h2,aS5,newVar,newRow,run_newObj,aS7];rfl
 ·have:=aL.optr (V:=(E.newRow fresh v.cells t (aT v).cells).view) fresh 0 ⟨.row (aT v).cells,by simp only[aE.newRow];exact aSz (lG hf),z6⟩;simpa[aE.view,aE.newRow]using this
theorem UQ{t:TypeId}{fresh:Nat}(hf:E.H[fresh]? =some .unborn){x:Operand}(hx:aQ N x=true)(hj:(bT T x).isJunk=false):
  ∃E' val,(Instr.box t (a.eval x)).run P E.w= .ok val E'.w/\E.le E'/\E'.Ok/\E'.H=E.H.set fresh (.row (bT T x).cells)/\aL E'.view val (.optr fresh 0):=by
 have hr:=aM ht x hx;generalize a.eval x=v at hr;generalize bT T x=p at hr hj;obtain⟨c1,c2⟩:=hr.not_junk_cells hj;refine⟨E.newRow fresh v.cells t p.cells, .pointer (some ⟨E.w.heap.size,0,none⟩), ?_,aE.newRow_le ho hf _ _ _,aE.Ok.newRow ho hf _ _ _ c1 c2,rfl, ?_⟩
 ·simp only[Instr.box,aS4,aS5,newVar,newRow,run_newObj,aS7];rfl
 ·have:=aL.optr (V:=(E.newRow fresh v.cells t p.cells).view) fresh 0 ⟨.row p.cells,by simp only[aE.newRow];exact aSz (lG hf),z6⟩;simpa[aE.view,aE.newRow]using this
end ops
def RL(V:cS)(arr:Array Value)(cs:List PV):Prop:=arr.size=cs.length/\∀i (h:i<cs.length),aL V (arr.getD i undef) cs[i]
theorem RL.set{V:cS}{arr:Array Value}{cs:List PV}(h:RL V arr cs)(k:Nat){v:Value}{p:PV}(hv:aL V v p):RL V (arr.setIfInBounds k v) (cs.set k p):=by
 refine⟨by simp[h.1],λi hi=> ?_⟩;simp only[lS]at hi;rw[aSo]
 by_cases e:k=i
 ·subst e;rw[aSp (by rw[h.1];exact hi)];simpa using hv
 ·rw[aSq e,List.getElem_set_ne e,<-aSo];exact h.2 i hi
theorem oW{V:cS}:∀(vs:List Value) (ps:List PV) (off s:Nat) (arr:Array Value) (cs:List PV),RL V arr cs->vs.length=ps.length->(∀j (h:j<ps.length),aL V (vs.getD j undef) ps[j])->
  RL V ((vs.zipIdx s).foldl (λcs (c,j)=>cs.setIfInBounds (off+j) c) arr) (cY cs (off+s) ps)
 | [],ps,off,s,arr,cs,h,hl,hr=>by
  obtain rfl:ps= []:=by cases ps with|nil=>rfl|cons _ _=>simp at hl
  exact h
 |v::vs,ps,off,s,arr,cs,h,hl,hr=>by
  match ps,hl with
  |p::ps,hl=>
   simp only[aS2]at hl hr;simp only[List.zipIdx_cons,List.foldl_cons,cY];have:=oW vs ps off (s+1) (arr.setIfInBounds (off+s) v) (cs.set (off+s) p) (h.set _ (hr 0 z8)) z8
    (λj hj=>by have:=hr (j+1) z8;simpa using this)
   rw[<-Nat.add_assoc]at this;exact this
theorem DI{P:Program}{w:World}:∀(fs:List Field) (fl:List (Nat×TI)),(fs.mapM λf=>(cV P f.type).map λi=>(f.offset,i))=some fl->(fs.mapM (m:=Sem) λf=>do pure (f.offset,<-sizeOf f.type)).run P w= .ok (fl.map λx=>(x.1,x.2.sz)) w
  | [],fl,h=>by
    simp at h;subst h;rfl
  |f::fs,fl,h=>by
    rw[List.mapM_cons]at h⊢;cases h1:cV P f.type with
    |none=>rw[h1]at h;simp at h
    |some i=>
      cases h2:fs.mapM λf=>(cV P f.type).map λi=>(f.offset,i)with
      |none=>rw[h1]at h;simp[h2]at h
      |some fl'=>
        rw[h1]at h;simp[h2]at h;subst h;have ih:=DI (w:=w) fs fl' h2;obtain⟨d,g,e1,e2,rfl⟩:=cA h1;simp only[aS4,dK e2,aS5,aS7,ih,aTg]
theorem DR{P:Program}{t:TypeId}{fl:List (Nat×TI)}(h:oG P t=some fl):∃fs,P.underlying t=some (.struct fs)/\(fs.toList.mapM λf=>(cV P f.type).map λi=>(f.offset,i))=some fl:=by
  unfold oG at h
  split at h
  · rename_i fs h1;exact⟨fs,h1,h⟩
  · cases h
section ops
variable{P:Program}{E:aE}{N:Nat}{a:Act}{T:Nat->PV}(ht:eR E.view N a T)
include ht in
theorem EE(fl:List (Nat×TI)):∀(ps:List (Nat×Operand)) (arr:Array Value) (cs cs':List PV),RL E.view arr cs->ps.all (λx=>aQ N x.2)=true->oE fl T cs ps=some cs'->∃arr',Instr.fill ((fl.map λx=>(x.1,x.2.sz)).toArray[·]?) arr (ps.map λ(i,x)=>(i,a.eval x))=some arr'/\RL E.view arr' cs'
  | [],arr,cs,cs',h,_,hb=>by cases hb;exact⟨arr,rfl,h⟩
  | (f,x)::rest,arr,cs,cs',h,hok,hb=>by
    simp only[aSd,aSe]at hok;unfold oE at hb
    split at hb
    · rename_i off i hf
      split at hb
      · rename_i hc
        obtain⟨hc1,hc2,hc3⟩:=hc;have hr:=aM ht x hok.1;obtain⟨c1,c2⟩:=hr.not_junk_cells hc1;have h':=oW (V:=E.view) (a.eval x).cells.toList ((bT T x).cells.map PV.drop1) off 0 arr cs h (by simp[c1]) (λj hj=>by
          have:=c2 j (by simpa using hj);rw[aSo]at this;rw[aTe,aTf];simp only[aSh];exact this.drop1)
        rw[Nat.add_zero]at h';obtain⟨arr',e1,e2⟩:=EE fl rest _ _ cs' h' hok.2 hb;refine⟨arr', ?_,e2⟩;simp only[aTg,Instr.fill];simp only[aTa,aTb,hf,aS1];rw[if_neg]
        · rw[<-e1]
          simp only[aTa,aTb];congr 1;rw[<-Array.foldl_toList,Array.toList_zipIdx]
        · have c3:(a.eval x).cells.size=i.sz:=c1.trans hc2
          have c4:=h.1;rw[c3,c4];simp;omega
      · cases hb
    · cases hb
include ht in
theorem NX{t:TypeId}{ps:Array (Nat×Operand)}(hok:ps.toList.all (λx=>aQ N x.2)=true){fl:List (Nat×TI)}(hf:oG P t=some fl){z:PV}(hz:dC P t=some z)(hj:z.isJunk=false){cs:List PV}(hb:oE fl T z.cells ps.toList=some cs):∃val,(Instr.build t (ps.map λ(i,x)=>(i,a.eval x))).run P E.w= .ok val E.w/\aL E.view val (.agg cs):=by
  obtain⟨fs,h1,h2⟩:=DR hf;obtain⟨f,v,h3,h4,rfl⟩:=eQ hz;have hr:=DI (P:=P) (w:=E.w) fs.toList fl h2;obtain⟨c1,c2⟩:=(dR E.view v).not_junk_cells hj;obtain⟨arr',e1,e2⟩:=EE ht fl ps.toList v.cells (aT v).cells cs ⟨c1,c2⟩ hok hb;refine⟨.agg arr', ?_, .agg _ _ e2.1 e2.2⟩;simp only[Instr.build,aS4,jH h3 h4,aS5,aS h1,Array.mapM_eq_mapM_toList,Sem.run_map,hr,Array.toList_map];simp only[e1,aS7]
end ops
theorem PV.fits_spec{i:TI}{p:PV}(h:p.fits i=true):p.cells.length=i.sz/\p.isJunk=false:=by
  unfold PV.fits at h;simp only[aSe,decide_eq_true_eq]at h;refine⟨h.1, ?_⟩;cases p<;>first|rfl| (simp at h;done)
theorem PV.drop1_cells_length(p:PV):p.drop1.cells.length=p.cells.length:=by
  cases p<;>first|rfl|simp[PV.drop1,PV.cells]
theorem PV.drop1_isJunk(p:PV):p.drop1.isJunk=p.isJunk:=by cases p<;>rfl
theorem aL.drop1_cells{V:cS}{v:Value}{p:PV}(h:aL V v p)(hj:p.isJunk=false):v.cells.size=p.drop1.cells.length/\∀i (h:i<p.drop1.cells.length),aL V (v.cells.getD i undef) (p.drop1.cells[i]):=
  h.drop1.not_junk_cells (by rw[PV.drop1_isJunk];exact hj)
def aH(es:List PV):List PV:=(es.map PV.cells).flatten
theorem kF{sz:Nat}:∀(es:List PV),(∀e∈es,e.cells.length=sz)->∀i j,(hi:i<es.length)->(hj:j<sz)->(aH es)[i*sz+j]? =(es[i].cells)[j]?
  | [],_,i,j,hi,_=>absurd hi z6
  |e::es,h,i,j,hi,hj=>by
    have he:=h e z6;simp only[aH,aTg,List.flatten_cons];cases i with
    |zero=>simp only[Nat.zero_mul,aTh,aSj];rw[aSv z8]
    |succ i=>
      rw[aSw (by rw[he,Nat.succ_mul];omega),he];have:=kF (sz:=sz) es (λx hx=>h x (by simp[hx])) i j (by simpa using hi) hj;rw[show(i+1)*sz+j-sz=i*sz+j by rw[Nat.succ_mul];omega];simpa[aH]using this
theorem bQ{sz:Nat}:∀(es:List PV),(∀e∈es,e.cells.length=sz)->(aH es).length=es.length*sz
  | [],_=>by simp[aH]
  |e::es,h=>by
    have he:=h e z6;have:=bQ (sz:=sz) es (λx hx=>h x (by simp[hx]));simp only[aH,aTg,List.flatten_cons,aTi,aS2]at this⊢;rw[this,he,Nat.succ_mul];omega
theorem FF(sz:Nat):∀(vs cs:List PV) (off k:Nat),off+vs.length<=cs.length->(cY cs off vs)[k]? =if off<=k/\k<off+vs.length then vs[k-off]? else cs[k]?
  | [],cs,off,k,_=>by rw[cY,if_neg z6]
  |v::vs,cs,off,k,h=>by
    simp only[aS2]at h;rw[cY,FF sz vs _ (off+1) k (by simp;omega)]
    by_cases e:k=off
    · subst e
      rw[if_neg z8,if_pos z6,aSz z8];simp
    · by_cases c:off+1<=k/\k<off+1+vs.length
      · rw[if_pos c,if_pos (by simp only[aS2];omega),show k-off=(k- (off+1))+1 by omega,aS3]
      · rw[if_neg c,if_neg (by simp only[aS2];omega),aS0 (λq=>e q.symm)]
theorem yH{sz:Nat}(es:List PV)(h:∀e∈es,e.cells.length=sz)(k:Nat)(hk:k<es.length)(v:PV)(hv:v.cells.length=sz):cY (aH es) (k*sz) v.cells=aH (es.set k v):=by
  have hfl:=bQ es h;have h':∀e∈es.set k v,e.cells.length=sz:=by
    intro e he;rcases List.mem_or_eq_of_mem_set he with he|rfl
    · exact h e he
    · exact hv
  have hfl':=bQ _ h';have hks:(k+1)*sz<=es.length*sz:=aTj _ hk;rw[Nat.succ_mul]at hks;apply List.ext_getElem?;intro n;rw[FF sz _ _ _ _ (by rw[hfl,hv];omega),hv]
  by_cases hn:n<es.length*sz
  · have hsz:0<sz:=by
      rcases Nat.eq_zero_or_pos sz with e|e; · subst e;simp at hn
      · exact e
    have hq:n/sz<es.length:=(Nat.div_lt_iff_lt_mul hsz).2 hn;have hm:=Nat.mod_lt n hsz;have hdm:n=n/sz*sz+n%sz:=by rw[Nat.mul_comm];exact(Nat.div_add_mod n sz).symm
    have g2:=kF (es.set k v) h' (n/sz) (n%sz) (by simpa using hq) hm;rw[<-hdm]at g2;rw[g2]
    by_cases e:n/sz=k
    · subst e
      rw[if_pos z8];simp only[List.getElem_set_self];congr 1;omega
    · rw[if_neg]
      · have g1:=kF es h (n/sz) (n%sz) hq hm
        rw[<-hdm]at g1;rw[g1,List.getElem_set_ne (λq=>e q.symm)]
      · rintro⟨q1,q2⟩
        apply e;apply Nat.le_antisymm
        · rw[<-Nat.lt_succ_iff];exact(Nat.div_lt_iff_lt_mul hsz).2 (by rw[Nat.succ_mul];omega)
        · exact(Nat.le_div_iff_mul_le hsz).2 q1
  · rw[if_neg z8,aSx z8,aSx (by rw[hfl',lS];omega)]
theorem rY{V:cS}{b n:Nat}{arr:Array Value}{es:List PV}{sz:Nat}(hcell:∀k,k<arr.size->V.cell ⟨b,k,none⟩=some (arr.getD k undef))(hes:∀e∈es,e.cells.length=sz)(hrl:RL V arr (aH es))(hn:es.length=n)(hm:n<=maxLen):aL V (.slice (some ⟨b,0,none⟩) n n) (.slice es .full):=by
  have hfl:=bQ es hes;refine .slice _ n n sz es .full (λi j=>arr.getD (i*sz+j) undef) hn (aSl _) hm (λi h=>hes _ (aTk h)) ?_ ?_ rfl
  · intro i j hi hj
    rw[dD,aTh];apply hcell;rw[hrl.1,hfl];have:(i+1)*sz<=es.length*sz:=aTj _ z8;rw[Nat.succ_mul]at this;omega
  · intro i j hi hj
    have hl:=hes _ (aTk hi);have hj':j<sz:=z8
    have hk:i*sz+j<(aH es).length:=by
      rw[hfl];have:(i+1)*sz<=es.length*sz:=aTj _ z8;rw[Nat.succ_mul]at this;omega
    have h1:=hrl.2 _ hk;have h2:=kF es hes i j hi hj';rw[aTd hk,aTd hj]at h2;simp only[Option.some.injEq]at h2;rw[h2]at h1;exact h1
theorem RL.mono{V V':cS}(h:V.le V'){arr cs}(r:RL V arr cs):RL V' arr cs:=⟨r.1,λi hi=>(r.2 i hi).mono h⟩
theorem wM{E:aE}{arr:Array Value}{elem:TypeId}:∀k,k<arr.size->(E.newFixed (.cells arr elem)).view.cell ⟨E.w.heap.size,k,none⟩=some (arr.getD k undef):=by
  intro k hk;refine aE.cell_of (by simp[aE.newFixed,rZ.stable]) ?_;have:(E.newFixed (.cells arr elem)).w.heap[E.w.heap.size]? =some (.cells arr elem (0,0)):=heap_alloc_new _ _;rw[kZ this,aSo,aSt hk];rfl
theorem qV{V:cS}(z:Value)(hj:(aT z).isJunk=false)(n:Nat):RL V ((Array.range (n*z.cells.size)).map (z.cells[· %z.cells.size]!)) (aH (aS6 n (aT z))):=by
  obtain⟨c1,c2⟩:=(dR V z).not_junk_cells hj;have hes:∀e∈aS6 n (aT z),e.cells.length=z.cells.size:=by
    intro e he;rw[(List.mem_replicate.1 he).2,c1]
  have hfl:=bQ _ hes;rw[List.length_replicate]at hfl;refine⟨by simp[hfl],λk hk=> ?_⟩;rw[hfl]at hk;have hsz:0<z.cells.size:=by
    rcases Nat.eq_zero_or_pos z.cells.size with e|e
    · rw[e]at hk;simp at hk
    · exact e
  have hq:k/z.cells.size<n:=(Nat.div_lt_iff_lt_mul hsz).2 hk;have hm:=Nat.mod_lt k hsz;have g:=kF _ hes (k/z.cells.size) (k%z.cells.size) (by simpa using hq) hm;rw[show k/z.cells.size*z.cells.size+k%z.cells.size=k by rw[Nat.mul_comm];exact Nat.div_add_mod k _]at g;have hk':k<(aH (aS6 n (aT z))).length:=by rw[hfl];exact hk
  simp only[List.getElem_replicate]at g;rw[aTd hk',aTd (by rw[<-c1];exact hm)]at g;simp only[Option.some.injEq]at g;rw[g];have:=c2 _ (by rw[<-c1];exact hm);rw[aSo]at this⊢;simp only[Array.getElem?_map,Array.getElem?_range,if_pos hk];simp only[aS1,aSu];rw[getElem!_pos z.cells _ hm];rw[aSt hm]at this;exact this
section ops
variable{P:Program}{E:aE}{N:Nat}{a:Act}{T:Nat->PV}(ht:eR E.view N a T)
include ht in
theorem rE(i:TI):∀(ps:List (Nat×Operand)) (arr:Array Value) (es es':List PV),RL E.view arr (aH es)->(∀e∈es,e.cells.length=i.sz)->ps.all (λx=>aQ N x.2)=true->fH i T es ps=some es'->∃arr',Instr.fill (λk=>some (k*i.sz,i.sz)) arr (ps.map λ(i,x)=>(i,a.eval x))=some arr'/\RL E.view arr' (aH es')/\(∀e∈es',e.cells.length=i.sz)/\es'.length=es.length
  | [],arr,es,es',h,hs,_,hb=>by cases hb;exact⟨arr,rfl,h,hs,rfl⟩
  | (k,x)::rest,arr,es,es',h,hs,hok,hb=>by
    simp only[aSd,aSe]at hok;unfold fH at hb
    split at hb
    · rename_i hc
      obtain⟨hc1,hk⟩:=hc;obtain⟨hc2,hc3⟩:=PV.fits_spec hc1;have hr:=aM ht x hok.1;obtain⟨c1,c2⟩:=hr.drop1_cells hc3;have c3:(a.eval x).cells.size=i.sz:=by rw[c1,PV.drop1_cells_length,hc2]
      have hdl:(bT T x).drop1.cells.length=i.sz:=by rw[PV.drop1_cells_length,hc2]
      have h':=oW (V:=E.view) (a.eval x).cells.toList (bT T x).drop1.cells (k*i.sz) 0 arr (aH es) h (by simp[c1]) (λj hj=>by
        have:=c2 j hj;rw[aSo]at this;rw[aTe,aTf];exact this)
      rw[Nat.add_zero,yH es hs k hk _ hdl]at h';have hs':∀e∈es.set k (bT T x).drop1,e.cells.length=i.sz:=by
        intro e he;rcases List.mem_or_eq_of_mem_set he with he|rfl
        · exact hs e he
        · exact hdl
      obtain⟨arr',e1,e2,e3,e4⟩:=rE i rest _ _ es' h' hs' hok.2 hb;refine⟨arr', ?_,e2,e3,by rw[e4];simp⟩;simp only[aTg,Instr.fill];have hfl:=bQ es hs;have hks:(k+1)*i.sz<=es.length*i.sz:=aTj _ hk;rw[Nat.succ_mul]at hks;rw[if_neg]
      · rw[<-e1]
        congr 1;rw[<-Array.foldl_toList,Array.toList_zipIdx]
      · rw[c3,h.1,hfl];simp;omega
    · cases hb
include ht in
theorem zW(ho:E.Ok){t:TypeId}{n:Nat}{ps:Array (Nat×Operand)}(hok:ps.toList.all (λx=>aQ N x.2)=true){ei:TypeId×TI}(hf:dH P t=some ei){z:PV}(hz:dC P ei.1=some z)(hfit:z.fits ei.2=true)(hs0:0<ei.2.sz)(hsz:n*ei.2.sz<=2^24){es:List PV}(hb:fH ei.2 T (aS6 n z) ps.toList=some es):∃E' val,(Instr.buildSlice t n (ps.map λ(i,x)=>(i,a.eval x))).run P E.w= .ok val E'.w/\E.le E'/\E'.Ok/\E'.H=E.H/\aL E'.view val (.slice es .full):=by
  obtain⟨e,i⟩:=ei;obtain⟨h1,h2⟩:=dE hf;obtain⟨d,f,h3,h4,rfl⟩:=cA h2;obtain⟨f',v,h5,h6,rfl⟩:=eQ hz;simp only at hfit hs0 hsz hb h5;rw[h4]at h5;cases h5;obtain⟨hc1,hc2⟩:=PV.fits_spec hfit;simp only at hc1;obtain⟨c1,c2⟩:=(dR E.view v).not_junk_cells hc2;have hvs:v.cells.size=f.size:=c1.trans hc1;have hrl:=qV (V:=E.view) v hc2 n;have hes:∀e∈aS6 n (aT v),e.cells.length=f.size:=by
    intro e he;rw[(List.mem_replicate.1 he).2,hc1]
  obtain⟨arr',e1,e2,e3,e4⟩:=rE ht ⟨vM d,f.size,f.bytes⟩ ps.toList _ _ es hrl hes hok hb;rw[List.length_replicate]at e4;have hle:=aE.newFixed_le ho (.cells arr' e);refine⟨E.newFixed (.cells arr' e), .slice (some ⟨E.w.heap.size,0,none⟩) n n, ?_,hle,ho.newFixed _,rfl, ?_⟩
  · simp only[Instr.buildSlice,aS4,aS h1,dK h4,aS5]
    have hlt:¬n*f.size>2^24:=z8
    simp only[hlt,if_false,aS7,aS5,Sem.run_ite,aS4]
    by_cases hn:n*f.size=0
    · have hn0:n=0:=by
        rcases Nat.mul_eq_zero.1 hn with h|h; · exact h
        · omega
      subst hn0;simp only[Nat.zero_mul,if_true,aS5];simp only[Nat.zero_mul]at e1;have e0:Array.map (λx=>v.cells[x%v.cells.size]!) (Array.range 0)=Array.map (λx=>(#[]:Array Value)[x%(#[]:Array Value).size]!) (Array.range 0):=z6
      rw[e0]at e1;rw[Array.toList_map];simp only[e1,newRow,aS4,run_newObj,aS5,aS7];rfl
    · simp only[if_neg hn,jH h4 h6,aS5,aS4,aS7]
      rw[Array.toList_map];rw[hvs]at e1;simp only[hvs,e1,newRow,aS4,run_newObj,aS5,aS7];rfl
  · refine rY (sz:=f.size) wM e3 (e2.mono hle.view) e4 ?_
    have:n<=n*f.size:=Nat.le_mul_of_pos_right _ hs0;unfold maxLen;omega
end ops
theorem aI{a b:Prop}(h:a)(k:b):a/\b:=⟨h,k⟩
theorem aL.int_inv{V:cS}{v:Value}{k n}(h:aL V v (.int k n)):v= .int k n:=by cases h;rfl
theorem aL.bool_inv{V:cS}{v:Value}{b}(h:aL V v (.bool b)):v= .bool b:=by cases h;rfl
theorem aL.agg_inv{V:cS}{v:Value}{cs}(h:aL V v (.agg cs)):∃arr,v= .agg arr/\RL V arr cs:=by cases h;exact⟨_,rfl,‹_›,‹_›⟩
theorem aL.tup_inv{V:cS}{v:Value}{cs}(h:aL V v (.tup cs)):∃arr,v= .tuple arr/\RL V arr cs:=by cases h;exact⟨_,rfl,‹_›,‹_›⟩
theorem aL.iptr_inv{V:cS}{v:Value}{cs}(h:aL V v (.iptr cs)):∃(a:Addr) (vs:Nat->Value),v= .pointer (some a)/\(∀j,j<cs.length->V.cell (a.add j)=some (vs j))/\(∀j (h:j<cs.length),aL V (vs j) cs[j]):=by
 cases h;exact⟨_,_,rfl,‹_›,‹_›⟩
theorem aB5{cs:List PV}{off sz:Nat}{arr:Array Value}{V:cS}(h:RL V arr cs)(hl:off+sz<=cs.length):RL V (arr.extract off (off+sz)) ((cs.drop off).take sz):=by
 refine⟨by simp[h.1];omega,λi hi=> ?_⟩;simp only[aS9,aS8]at hi;have:=h.2 (off+i) z8;rw[List.getElem_take,List.getElem_drop];rw[aSo]at this⊢;rw[Array.getElem?_extract,if_pos (by rw[h.1];omega)];exact this
section ops
variable{P:Program}{E:aE}{N:Nat}{a:Act}{T:Nat->PV}(ht:eR E.view N a T)
include ht
omit ht in
theorem HQ{t:TypeId}{fl:List (Nat×TI)}(hf:oG P t=some fl){k off:Nat}{i:TI}(hk:fl[k]? =some (off,i)):
  ∃fs f,P.underlying t=some (.struct fs)/\fs[k]? =some f/\f.offset=off/\cV P f.type=some i:=by
 obtain⟨fs,h1,h2⟩:=DR hf;have key:∀(l:List Field) (fl:List (Nat×TI)) (k:Nat),(l.mapM λf=>(cV P f.type).map λi=>(f.offset,i))=some fl->fl[k]? =some (off,i)->
   ∃f,l[k]? =some f/\f.offset=off/\cV P f.type=some i:=by
  intro l
  induction l with
  |nil=>intro fl k h hk;simp at h;subst h;simp at hk
  |cons f l ih=>
   intro fl k h hk;rw[List.mapM_cons]at h;cases h3:cV P f.type with
   |none=>rw[h3]at h;simp at h
   |some j=>
    cases h4:l.mapM λf=>(cV P f.type).map λi=>(f.offset,i)with
    |none=>rw[h3]at h;simp[h4]at h
    |some fl'=>
     rw[h3]at h;simp[h4]at h;subst h;cases k with
     |zero=>simp at hk;exact⟨f,rfl,hk.1,by rw[h3,hk.2]⟩
     |succ k=>simp at hk;simpa using ih fl' k h4 hk
 obtain⟨f,h3,h4,h5⟩:=key fs.toList fl k h2 hk;exact⟨fs,f,h1,by simpa using h3,h4,h5⟩
theorem BP{t:TypeId}{k:Nat}{x:Operand}(hx:aQ N x=true){fl:List (Nat×TI)}(hf:oG P t=some fl){v:PV}(hv:uP fl k (bT T x)=some v):
  ∃val,(Instr.fieldAt t (a.eval x) k).run P E.w= .ok val E.w/\aL E.view val v:=by
 have hr:=aM ht x hx;generalize a.eval x=ax at hr;generalize bT T x=px at hr hv;unfold uP at hv
 split at hv
 ·rename_i off i hk;obtain⟨fs,f,h1,h2,h3,h4⟩:=HQ hf hk;obtain⟨d,g,h5,h6,rfl⟩:=cA h4
  split at hv
  ·cases hv
  ·rename_i hz;simp only at hz;have hplace:∀ad:Addr,(fieldPlace ad f).run P E.w= .ok (ad.add off) E.w:=by
    intro ad;simp only[fieldPlace,aS4,dK h6,aS5,if_neg hz,aS7,h3]
   have hrun:∀ad:Addr,(Instr.fieldAt t (.pointer (some ad)) k).run P E.w= .ok (.pointer (some (ad.add off))) E.w:=by
    intro ad;simp only[Instr.fieldAt,aS4,aS h1,aS5,h2,Instr.sureAddr,aS7,hplace]
   split at hv
   ·cases hv;obtain⟨rfl,hb⟩:=hr.optr_inv;refine⟨_,hrun _, ?_⟩;rw[dD];exact .optr _ _ hb
   ·rename_i cs;cases hv;obtain⟨ad,vs,rfl,hc,hr⟩:=hr.iptr_inv;refine⟨_,hrun _, .iptr _ _ (λj=>vs (off+j)) ?_ ?_⟩
    ·intro j hj;rw[aS8]at hj;rw[CB];exact hc _ z8
    ·intro j hj;rw[aS8]at hj;rw[List.getElem_drop];exact hr _ _
   ·cases hv
 ·cases hv
theorem MJ{t:TypeId}{k:Nat}{x:Operand}(hx:aQ N x=true){fl:List (Nat×TI)}(hf:oG P t=some fl){v:PV}(hv:YN fl k (bT T x)=some v):
  ∃val,(Instr.field t (a.eval x) k).run P E.w= .ok val E.w/\aL E.view val v:=by
 have hr:=aM ht x hx;generalize a.eval x=ax at hr;generalize bT T x=px at hr hv;unfold YN at hv
 split at hv
 ·rename_i off i cs hk;obtain⟨fs,f,h1,h2,h3,h4⟩:=HQ hf hk;obtain⟨d,g,h5,h6,rfl⟩:=cA h4;obtain⟨arr,rfl,hrl⟩:=hr.agg_inv
  split at hv
  ·rename_i hl;simp only at hl hv
   split at hv
   ·rename_i hagg;cases hv;have:=aB5 hrl hl;refine⟨.agg (arr.extract off (off+g.size)), ?_, .agg _ _ this.1 this.2⟩;simp only[Instr.field,aS4,aS h1,aS5,h2,asAgg,aS7,part,CG h5,hagg,if_true,dK h6,h3]
   ·rename_i hagg;have hlt:=lG hv;have hc:=hrl.2 off hlt;rw[aTd hlt]at hv;cases hv;have hg:arr[off]? =some (arr.getD off undef):=by
     rw[aSo,aSt (by rw[hrl.1];exact hlt)];rfl
    refine⟨arr.getD off undef, ?_,hc⟩;simp only[Bool.not_eq_true]at hagg;simp only[Instr.field,aS4,aS h1,aS5,h2,asAgg,aS7,part,CG h5,hagg,aTc,if_false,h3,hg]
  ·cases hv
 ·cases hv
omit ht in
theorem AJ{V:cS}{i:Value}{p:PV}{n k:Nat}(hr:aL V i p)(h:BT p n=some k):∃kd j,i= .int kd j/\0<=j/\j<n/\j.toNat=k:=by
 unfold BT at h
 split at h
 ·rename_i kd j
  split at h
  ·rename_i hc;cases h;exact⟨kd,j,hr.int_inv,hc.1,hc.2,rfl⟩
  ·cases h
 ·cases h
theorem BW{t:TypeId}{x i:Operand}(hx:aQ N x=true)(hi:aQ N i=true){ei:TypeId×TI}(hf:dH P t=some ei){v:PV}(hv:mA ei (bT T x) (bT T i)=some v):
  ∃val,(Instr.indexAt t (a.eval x) (a.eval i)).run P E.w= .ok val E.w/\aL E.view val v:=by
 obtain⟨e,ti⟩:=ei;obtain⟨h1,h2⟩:=dE hf;obtain⟨d,f,h3,h4,rfl⟩:=cA h2;have hr:=aM ht x hx;have hr':=aM ht i hi;generalize a.eval x=ax at hr;generalize bT T x=px at hr hv;generalize a.eval i=ai at hr';generalize bT T i=pi at hr' hv;have hrun:∀(ad:Addr) (len cap:Nat) (kd:IntKind) (j:Int),0<=j->j<len->(Instr.indexAt t (.slice (some ad) len cap) (.int kd j)).run P E.w= .ok (.pointer (some (ad.add (j.toNat*f.size)))) E.w:=by
  intro ad len cap kd j h5 h6;simp only[Instr.indexAt,asIntOf,aS4,aS7,aS5,aS h1,dK h4,if_pos (aI h5 h6),Sem.run_ite]
 unfold mA at hv
 split at hv
 ·rename_i es tl;cases hk:BT pi es.length with
  |none=>rw[hk]at hv;cases hv
  |some k=>
   rw[hk]at hv;obtain⟨kd,j,rfl,h5,h6,rfl⟩:=AJ hr' hk;simp only[aSy]at hv;have hlt:j.toNat<es.length:=z8
   rw[aTd hlt]at hv;simp only[aSy]at hv
   split at hv
   ·rename_i hes;cases hv;cases hr with
    |nils _ _=>simp at hlt
    |slice ad len cap sz _ _ vs hlen hcap hmax hsz hc hr htl=>
     refine⟨_,hrun ad len cap kd j h5 z8, ?_⟩;have hs:=hsz _ hlt;have hszf:sz=f.size:=by rw[<-hs];exact hes
     refine .iptr _ _ (λq=>vs j.toNat q) (λq hq=> ?_) (λq hq=>hr _ q hlt hq);rw[CB];have:=hc j.toNat q z8 z8;rw[hszf]at this;exact this
   ·cases hv
 ·rename_i id off n c;cases hk:BT pi n with
  |none=>rw[hk]at hv;cases hv
  |some k=>
   rw[hk]at hv;obtain⟨kd,j,rfl,h5,h6,rfl⟩:=AJ hr' hk;cases hv;cases hr with
   |msl _ _ _ _ hb hm=>
    refine⟨_,hrun _ n c kd j h5 h6, ?_⟩;rw[dD];exact .optr _ _ hb
 ·cases hv
theorem KY{t:TypeId}{x i:Operand}(hx:aQ N x=true)(hi:aQ N i=true){s:List UInt8}(hs:bT T x= .str s)(hst:MX P t=true){k:Nat}(hk:BT (bT T i) s.length=some k){b:UInt8}(hb:s[k]? =some b):
  (Instr.index t (a.eval x) (a.eval i)).run P E.w= .ok (.int .u8 b.toNat) E.w:=by
 have hr:=aM ht x hx;have hr':=aM ht i hi;rw[hs]at hr;obtain⟨kd,j,e,h5,h6,rfl⟩:=AJ hr' hk;rw[e];unfold MX at hst
 split at hst
 ·rename_i hu;generalize a.eval x=ax at hr;cases hr with
  |str s=>
   have hb':s[j.toNat]? =some b:=by
    rw[<-hb];simp only[aTf];rfl
   simp only[Instr.index,asIntOf,aS4,aS7,aS5,aS hu,if_pos h5,hb']
 ·cases hst
theorem GO{x:Operand}(hx:aQ N x=true){vs:List PV}(hs:bT T x= .tup vs){k:Nat}{v:PV}(hk:vs[k]? =some v):
  ∃val,(Instr.extract (a.eval x) k).run P E.w= .ok val E.w/\aL E.view val v:=by
 have hr:=aM ht x hx;rw[hs]at hr;obtain⟨arr,e,hrl⟩:=hr.tup_inv;rw[e];have hlt:=lG hk;rw[aTd hlt]at hk;cases hk;have hg:arr[k]? =some (arr.getD k undef):=by
  rw[aSo,aSt (by rw[hrl.1];exact hlt)];rfl
 exact⟨_,by simp only[Instr.extract,hg,aS7],hrl.2 _ hlt⟩
end ops
theorem DD(s:ByteArray)(l h:Nat):(s.extract l h).data.toList=(s.data.toList.take h).drop l:=by
 rw[ByteArray.data_extract,Array.toList_extract];rw[List.extract_eq_take_drop,List.drop_take]
theorem WG{V:cS}{i:Value}{p:PV}{n k:Nat}(hr:aL V i p)(h:BQ p n=some k):∃kd j,i= .int kd j/\0<=j/\j<=n/\j.toNat=k:=by
 unfold BQ at h
 split at h
 ·rename_i kd j
  split at h
  ·rename_i hc;cases h;exact⟨kd,j,hr.int_inv,hc.1,hc.2,rfl⟩
  ·cases h
 ·cases h
theorem zK{P:Program}{V:cS}{w:World}{i:Value}{p:PV}{n k:Nat}{c:BoundsCode}(hr:aL V i p)(m:Nat)(hm:n<=m)(h:BQ p n=some k):(Instr.sliceBound i m c).run P w= .ok k w/\k<=n:=by
 obtain⟨kd,j,rfl,h1,h2,rfl⟩:=WG hr h;have:0<=j/\j<=m:=⟨h1,z8⟩;refine⟨?_,z8⟩;simp only[Instr.sliceBound,asIntOf,aS4,aS7,aS5,if_pos this,Sem.run_ite]
section ops
variable{P:Program}{E:aE}{N:Nat}{a:Act}{T:Nat->PV}(ht:eR E.view N a T)
include ht
theorem pC{w:World}{x:Option Operand}(hx:x.all (aQ N)=true){n d k:Nat}(m:Nat)(hm:n<=m){c:BoundsCode}(h:kW T x n d=some k):
  ((match x.map a.eval with|some v=>Instr.sliceBound v m c|none=>pure d:Sem Nat)).run P w= .ok k w/\(k<=n\/(x=none/\k=d)):=by
 cases x with
 |none=>simp[kW]at h;subst h;exact⟨rfl, .inr ⟨rfl,rfl⟩⟩
 |some x=>
  simp only[kW]at h;have:=zK (P:=P) (w:=w) (c:=c) (aM ht x (by simpa using hx)) m hm h;exact⟨this.1, .inl this.2⟩
theorem MO{t:TypeId}{x:Operand}{lo hi mx:Option Operand}(hx:aQ N x=true)(hlo:lo.all (aQ N)=true)(hhi:hi.all (aQ N)=true)(hmx:mx.all (aQ N)=true){v:PV}
  (hv:kO P T t (bT T x) lo hi mx=some v):
  ∃val,(Instr.sliceAt t (a.eval x) (lo.map a.eval) (hi.map a.eval) (mx.map a.eval)).run P E.w= .ok val E.w/\aL E.view val v:=by
 have hr:=aM ht x hx;generalize a.eval x=ax at hr;generalize bT T x=px at hr hv;unfold kO at hv
 split at hv
 ·rename_i s
  split at hv
  ·rename_i hc;obtain⟨hst,hmn⟩:=hc;obtain rfl:mx=none:=by cases mx<;>simp_all
   cases hh:kW T hi s.length s.length with
   |none=>rw[hh]at hv;cases hv
   |some h=>
    rw[hh]at hv;simp only[aSy]at hv;cases hl:kW T lo h 0 with
    |none=>rw[hl]at hv;cases hv
    |some l=>
     rw[hl]at hv;simp only[aSy,Option.some.injEq]at hv;subst hv;unfold MX at hst
     split at hst
     ·rename_i hu;cases hr with
      |str s=>
       have hsz:s.data.toList.length=s.size:=aSs;rw[hsz]at hh;have h1:=pC (P:=P) ht (w:=E.w) hhi s.size (aSl _) (c:=.sliceAlen) hh;have h2:=pC (P:=P) ht (w:=E.w) hlo h (aSl _) (c:=.sliceB) hl;refine⟨.string (s.extract l h), ?_, ?_⟩
       ·simp only[Instr.sliceAt,aS4,aS hu,aS5,Instr.slice,aTl,aTm,aTc,if_false,Instr.sliceBounds,aS7];have e1:=h1.1;have e2:=h2.1;cases hi with
        |none=>
         cases lo with
         |none=>simp only[aTl,aS7,Result.ok.injEq,and_true]at e1 e2⊢;subst e1;subst e2;simp
         |some lo=>simp only[aTl,aS1,aS7,Result.ok.injEq,and_true]at e1 e2⊢;subst e1;simp[e2]
        |some hi=>
         cases lo with
         |none=>simp only[aTl,aS1,aS7,Result.ok.injEq,and_true]at e1 e2⊢;subst e2;simp[e1]
         |some lo=>simp only[aS1,aS7,Result.ok.injEq,and_true]at e1 e2⊢;simp[e1,e2]
       ·rw[<-DD];exact .str _
     ·cases hst
  ·cases hv
 ·rename_i es tl
  split at hv
  ·rename_i e i htel
   split at hv
   ·rename_i hsz0;obtain⟨hu,hti⟩:=dE htel;obtain⟨d,f,h3,h4,rfl⟩:=cA hti;simp only at hsz0;obtain⟨ad,len,cap,rfl,hlen,hcap,hmax,hres⟩:∃(ad:Option Addr) (len cap:Nat),ax= .slice ad len cap/\es.length=len/\len<=cap/\cap<=maxLen/\
      ∀l h m tl',l<=h->h<=len->h<=m->m<=cap->mV E.view tl' (if m=l then ad else ad.map (·.add (l*f.size))) (h-l) (m-l)->
       aL E.view (.slice (if m=l then ad else ad.map (·.add (l*f.size))) (h-l) (m-l)) (.slice ((es.take h).drop l) tl'):=by
     cases hr with
     |nils _ _=>
      refine⟨none,0,0,rfl,rfl,aSl _,aTn _, ?_⟩;intro l h m tl' h1 h2 h3 h4 h5;obtain rfl:m=0:=z8
      obtain rfl:h=0:=z8
      obtain rfl:l=0:=z8
      simp only[if_true,Nat.sub_self,List.take_nil,List.drop_nil]at h5⊢;exact .nils _ h5
     |slice ad len cap sz _ _ vs hlen hcap hmax hsz hc hr htl=>
      refine⟨some ad,len,cap,rfl,hlen,hcap,hmax, ?_⟩;intro l h m tl' h1 h2 h3 h4 h5;have hval:(if m=l then some ad else Option.map (λx:Addr=>x.add (l*f.size)) (some ad))=some (if m=l then ad else ad.add (l*f.size)):=by split<;>rfl
      rw[hval]at h5⊢;have hle:((es.take h).drop l).length=h-l:=by simp;omega
      have hget:∀i,(hi:i<((es.take h).drop l).length)->((es.take h).drop l)[i]=es[l+i]'(by rw[hle]at hi;omega):=by
       intro i hi;rw[List.getElem_drop,List.getElem_take]
      refine .slice _ _ _ sz _ _ (λi j=>vs (l+i) j) hle z8 z8 (λi hi=> ?_) (λi j hi hj=> ?_) (λi j hi hj=> ?_) h5
      ·rw[hget i hi];exact hsz _ _
      ·have hne:¬m=l:=z8
       rw[if_neg hne,CB];have hli:l+i<es.length:=z8
       have hss:sz=f.size:=by rw[<-hsz _ hli];exact hsz0 _ (aTk hli)
       have:=hc (l+i) j z8 hj;rw[<-this,<-hss,Nat.add_mul,Nat.add_assoc]
      ·have hj':=hj;simp only[hget i hi]at hj'⊢;exact hr _ _ _ _
    have hrun:∀(l h m:Nat),(Instr.sliceBounds true len cap (lo.map a.eval) (hi.map a.eval) (mx.map a.eval)).run P E.w= .ok (l,h,m) E.w->
      (Instr.sliceAt t (.slice ad len cap) (lo.map a.eval) (hi.map a.eval) (mx.map a.eval)).run P E.w= .ok (.slice (if m=l then ad else ad.map (·.add (l*f.size))) (h-l) (m-l)) E.w:=by
     intro l h m hb;simp only[Instr.sliceAt,aS4,aS hu,aS5,Instr.slice,hb,dK h4,aS7]
    have htail:mV E.view tl ad len cap:=by
     cases hr with
     |nils _ h=>exact h
     |slice=>assumption
    split at hv
    ·
     cases hh:kW T hi es.length es.length with
     |none=>rw[hh]at hv;cases hv
     |some h=>
      rw[hh]at hv;simp only[aSy]at hv;cases hl:kW T lo h 0 with
      |none=>rw[hl]at hv;cases hv
      |some l=>
       rw[hl]at hv;simp only[aSy,Option.some.injEq]at hv;subst hv;rw[hlen]at hh;have h1:=pC (P:=P) ht (w:=E.w) hhi cap hcap (c:=.sliceAcap) hh;have h2:=pC (P:=P) ht (w:=E.w) hlo h (aSl _) (c:=.sliceB) hl;have hhl:h<=len:=by rcases h1.2 with h| ⟨_,h⟩<;>omega
       have hll:l<=h:=by rcases h2.2 with h| ⟨_,h⟩<;>omega
       refine⟨_,hrun l h cap ?_,hres l h cap _ hll hhl z8 (aSl _) ?_⟩
       ·simp only[Instr.sliceBounds,aTl,aS4,aS7,aS5,aTm,aTc,if_false];have e1:=h1.1;have e2:=h2.1;cases hi with
        |none=>
         cases lo with
         |none=>simp only[aTl,aS7,Result.ok.injEq,and_true]at e1 e2⊢;subst e1;subst e2;simp
         |some lo=>simp only[aTl,aS1,aS7,Result.ok.injEq,and_true]at e1 e2⊢;subst e1;simp[e2]
        |some hi=>
         cases lo with
         |none=>simp only[aTl,aS1,aS7,Result.ok.injEq,and_true]at e1 e2⊢;subst e2;simp[e1]
         |some lo=>simp only[aS1,aS7,Result.ok.injEq,and_true]at e1 e2⊢;simp[e1,e2]
       ·split
        ·rename_i hc;obtain⟨hc1,rfl⟩:=hc;have:cap=len:=htail;show cap-l=h-l;omega
        ·split
         ·rename_i hc;obtain⟨hc1,hc2⟩:=hc;obtain rfl:hi=none:=by cases hi<;>simp_all
          obtain rfl:lo=none:=by cases lo<;>simp_all
          simp[kW]at hh hl;subst hh;subst hl;simp only[Nat.sub_zero,Nat.zero_mul,vS,Option.map_id_fun',id_eq,ite_self];have e:(if cap=0 then ad else Option.map (λx:Addr=>x) ad)=ad:=by split<;>simp
          simpa using htail
         ·trivial
    ·
     rename_i m
     split at hv
     ·cases hv
     ·rename_i hh;cases hm:BQ (bT T m) es.length with
      |none=>rw[hm]at hv;cases hv
      |some m'=>
       rw[hm]at hv;simp only[aSy]at hv;cases hhb:BQ (bT T hh) m' with
       |none=>rw[hhb]at hv;cases hv
       |some h'=>
        rw[hhb]at hv;simp only[aSy]at hv;cases hl:kW T lo h' 0 with
        |none=>rw[hl]at hv;cases hv
        |some l=>
         rw[hl]at hv;simp only[aSy,Option.some.injEq]at hv;subst hv;rw[hlen]at hm;have g1:=zK (P:=P) (w:=E.w) (c:=.slice3Acap) (aM ht m (by simpa using hmx)) cap hcap hm;have g2:=zK (P:=P) (w:=E.w) (c:=.slice3B) (aM ht hh (by simpa using hhi)) m' (aSl _) hhb;have h2:=pC (P:=P) ht (w:=E.w) hlo h' (aSl _) (c:=.slice3C) hl;have hll:l<=h':=by rcases h2.2 with h| ⟨_,h⟩<;>omega
         refine⟨_,hrun l h' m' ?_,hres l h' m' _ hll z8 g2.2 z8 ?_⟩
         ·simp only[Instr.sliceBounds,aS1,aS4,aS7,aS5,Option.isSome_some,if_true,g1.1,g2.1];have e2:=h2.1;cases lo with
          |none=>simp only[aTl,aS7,Result.ok.injEq,and_true]at e2⊢;subst e2;simp
          |some lo=>simp only[aS1]at e2⊢;simp[e2]
         ·split
          ·rename_i e;subst e;rfl
          ·trivial
   ·cases hv
  ·cases hv
 ·cases hv
end ops
theorem GY(n:Nat):∀(r c:Nat),256<=c->c<=2*n->Builtin.growBy n r c<=2*n
  |0,c,_,h=>h
  |r+1,c,h1,h=>by
    unfold Builtin.growBy
    split
    · exact h
    · exact GY n r _ z8 z8
theorem nW(n old:Nat)(h:old<=n):Builtin.nextslicecap n old<=2*n:=by
  unfold Builtin.nextslicecap
  split
  · omega
  · split
    · omega
    · exact GY n 4 old z8 z8
theorem CI{P:Program}{w:World}(n:Nat):(askRoom n).run P w= .ok () w:=by
  unfold askRoom;split<;>rfl
theorem lZ{P:Program}{w:World}(oV old:Nat)(e:TypeId):∃c,(choose (.appendCap oV old e)).run P w= .ok c w.drew/\oV<=c/\(oV<2^63->c<2^63):=by
  refine⟨oV+w.tape w.drawn (.appendCap oV old e)%(2^63-oV), ?_,z8,λh=> ?_⟩
  · simp only[choose,Sem.run,Question.forced,aTc,if_false,Question.cut];rfl
  · have:=Nat.mod_lt (w.tape w.drawn (.appendCap oV old e)) (show 0<2^63-oV by omega)
    omega
theorem mX{P:Program}{E:aE}{v:Value}{es:List PV}{tl:jM}(h:aL E.view v (.slice es tl)){sz:Nat}(hs:∀e∈es,e.cells.length=sz):∃arr,(Builtin.firstCells sz es.length v).run P E.w= .ok arr E.w/\RL E.view arr (aH es)/\∃ad cap,v= .slice ad es.length cap/\es.length<=cap/\cap<=maxLen/\mV E.view tl ad es.length cap:=by
  cases h with
  |nils _ ht=>exact⟨#[],rfl,⟨rfl,λi h=>absurd h (by simp[aH])⟩,none,0,rfl,aSl _,aTn _,ht⟩
  |slice ad len cap sz' _ _ vs hlen hcap hmax hsz hc hr ht=>
    subst hlen;have hfl:=bQ es hs
    by_cases h0:es.length*sz=0
    · refine⟨#[], ?_,⟨?_,λi h=> ?_⟩,some ad,cap,rfl,hcap,hmax,ht⟩
      · simp only[Builtin.firstCells,h0,loadCells,loadCellsFrom,aS7]
      · rw[hfl,h0];rfl
      · rw[hfl,h0]at h;omega
    · have hpos:0<es.length:=by
        rcases Nat.eq_zero_or_pos es.length with e|e; · rw[e]at h0;simp at h0
        · exact e
      have hszpos:0<sz:=by
        rcases Nat.eq_zero_or_pos sz with e|e; · rw[e]at h0;simp at h0
        · exact e
      have hss:sz'=sz:=by rw[<-hsz 0 hpos];exact hs _ (aTk hpos)
      subst hss;have hdm:∀k,k<es.length*sz'->k/sz'<es.length/\k%sz'<sz'/\k=k/sz'*sz'+k%sz':=λk hk=>
        ⟨(Nat.div_lt_iff_lt_mul hszpos).2 hk,Nat.mod_lt k hszpos,by rw[Nat.mul_comm];exact(Nat.div_add_mod k sz').symm⟩
      have hf:∀k,k<es.length*sz'->E.w.cell? (ad.add k)=some (vs (k/sz') (k%sz')):=by
        intro k hk;obtain⟨h1,h2,h3⟩:=hdm k hk;have:=aE.cell_stable (hc _ _ h1 h2);rw[<-h3]at this;exact this
      refine⟨_,run_loadCells E.w ad _ (λk=>vs (k/sz') (k%sz')) hf,⟨by simp[hfl],λk hk=> ?_⟩,some ad,cap,rfl,hcap,hmax,ht⟩;have hk':=hk;rw[hfl]at hk';obtain⟨h1,h2,h3⟩:=hdm k hk';have hj:k%sz'<es[k/sz'].cells.length:=by rw[hsz _ h1];exact h2
      have g:=kF es hs _ _ h1 h2;rw[<-h3,aTd hk,aTd hj]at g;simp only[Option.some.injEq]at g;rw[g,aSo];simp only[aTa,aTb,List.getElem?_range hk',aS1,aSu];exact hr _ _ h1 hj
theorem pA{V:cS}{a1 a2:Array Value}{c1 c2:List PV}(h1:RL V a1 c1)(h2:RL V a2 c2):RL V (a1++a2) (c1++c2):=by
  refine⟨by simp[h1.1,h2.1],λi hi=> ?_⟩;rw[aSo,Array.getElem?_append]
  by_cases h:i<c1.length
  · rw[if_pos (by rw[h1.1];exact h),List.getElem_append_left h,<-aSo]
    exact h1.2 i h
  · rw[if_neg (by rw[h1.1];exact h),List.getElem_append_right z8,h1.1,<-aSo]
    exact h2.2 _ _
theorem cN(a b:List PV):aH (a++b)=aH a++aH b:=by simp[aH]
theorem rX{V:cS}{b n cap:Nat}{arr:Array Value}{es:List PV}{sz:Nat}{tl:jM}(hcell:∀k,k<es.length*sz->V.cell ⟨b,k,none⟩=some (arr.getD k undef))(hes:∀e∈es,e.cells.length=sz)(hrl:∀k (h:k<(aH es).length),aL V (arr.getD k undef) (aH es)[k])(hn:es.length=n)(hc:n<=cap)(hm:cap<=maxLen)(ht:mV V tl (some ⟨b,0,none⟩) n cap):aL V (.slice (some ⟨b,0,none⟩) n cap) (.slice es tl):=by
  have hfl:=bQ es hes;have hlt:∀i j,i<es.length->j<sz->i*sz+j<es.length*sz:=by
    intro i j hi hj;have:(i+1)*sz<=es.length*sz:=aTj _ z8;rw[Nat.succ_mul]at this;omega
  refine .slice _ n cap sz es tl (λi j=>arr.getD (i*sz+j) undef) hn hc hm (λi h=>hes _ (aTk h)) ?_ ?_ ht
  · intro i j hi hj
    rw[dD,aTh];exact hcell _ (hlt i j z8 hj)
  · intro i j hi hj
    have hl:=hes _ (aTk hi);have hj':j<sz:=z8
    have hk:i*sz+j<(aH es).length:=by rw[hfl];exact hlt i j hi hj'
    have h1:=hrl _ hk;have h2:=kF es hes i j hi hj';rw[aTd hk,aTd hj]at h2;simp only[Option.some.injEq]at h2;rw[h2]at h1;exact h1
def aE.growIn(E:aE)(id n sz b off pos cend:Nat)(vs:List Value):aE:=
  {w:=iE E.w ⟨b,off,none⟩ vs 0,κ:=λx=>if x=b then .buf pos cend else E.κ x,ρ:=E.ρ,tb:=E.tb,H:=E.H.set id (.buf n sz)}
section growIn
variable{E:aE}(h:E.Ok){id n0 n sz b off pos cend:Nat}(hi:E.H[id]? =some (.buf n0 sz))(hn:n0<n)(hb:E.tb id=some b)(hk:E.κ b= .buf off cend)(vs:List Value)(hp:off+vs.length=pos)
include h hi hn hb hk hp
theorem aE.growIn_view:E.view.le (E.growIn id n sz b off pos cend vs).view:=by
  have hlen:=lG hi;obtain⟨arr,elem,pos',h1,h2⟩:=h.bufs id n0 sz b hi hb;obtain⟨arr',g1,g2,g3⟩:=rG b off elem (0,0) vs 0 E.w arr h1;refine⟨λa u hc=> ?_,λx hb'=> ?_,λx hb'=>rfl,λx t' hb' ht=> ?_⟩
  · simp only[aE.view]at hc⊢
    split at hc
    · rename_i hs
      by_cases e:a.block=b
      · rw[e,hk]at hs
        simp only[rZ.stable,decide_eq_true_eq]at hs;have hst:(rZ.buf pos cend).stable a.off=true:=by simp only[rZ.stable,decide_eq_true_eq];omega
        simp only[aE.growIn,if_pos e,hst,if_true];unfold World.cell? at hc⊢;rw[e,h1]at hc;rw[e,g1];simp only at hc⊢
        split at hc
        · cases hc
        · rename_i hsp
          rw[if_neg hsp];have hlt:a.off<arr.size:=by
            rcases aSk a.off arr.size with q|q
            · exact q
            · rw[Array.getElem?_eq_none q]at hc;cases hc
          rw[g3 _ hlt,if_neg z8];exact hc
      · simp only[aE.growIn,if_neg e,hs,if_true]
        rw[cell?_congr (lK _ _ e vs 0 E.w)];exact hc
    · cases hc
  · obtain⟨o,a1,a2⟩:=hb'
    by_cases e:x=id
    · exact⟨.buf n sz,by simp only[aE.growIn,aK hlen,if_pos e],z6⟩
    · exact⟨o,by simp only[aE.growIn,aK hlen,if_neg e];exact a1,a2⟩
  · by_cases e:x=id
    · subst e
      refine⟨_,by simp only[aE.view,hi];rfl, .inr ?_⟩;simp only[aE.view,aE.growIn,aK hlen,if_true]at ht;cases ht;exact hn
    · refine⟨t', ?_, .inl rfl⟩
      simp only[aE.view,aE.growIn,aK hlen,if_neg e]at ht⊢
      split at ht
      · rename_i n' sz' hx
        rw[<-ht];cases htb:E.tb x with
        |none=>rfl
        |some b'=>
          have hne:b'≠b:=by rintro rfl;exact e (h.injb x id _ _ _ _ _ hx hi htb hb)
          simp only[aSy,if_neg hne]
      · cases ht
theorem aE.growIn_le:E.le (E.growIn id n sz b off pos cend vs):=by
  have hlen:=lG hi;obtain⟨o1,o2,o3,o4⟩:=BD ⟨b,off,none⟩ vs 0 E.w;refine⟨o1,o2,o3,by show _<=(iE _ _ _ _).heap.size;omega,λx hx hnb=> ?_,aE.growIn_view h hi hn hb hk vs hp,λx hx=>Or.imp ?_ (Or.imp ?_ (aE.ownsObj_of λx k hx=> ?_))⟩
  · have hne:x≠b:=by rintro rfl;exact hnb (.inr (.inl ⟨id,n0,sz,hi,hb⟩))
    exact⟨by simp only[aE.growIn,if_neg hne],lK _ _ hne vs 0 E.w⟩
  · rintro⟨y,cs,a1,a2⟩
    simp only[aE.growIn,aK hlen]at a1 a2
    split at a1
    · cases a1
    · exact⟨y,cs,a1,a2⟩
  · rintro⟨y,m,s,a1,a2⟩
    simp only[aE.growIn,aK hlen]at a1 a2
    split at a1
    · rename_i e;subst e;exact⟨y,n0,sz,hi,a2⟩
    · exact⟨y,m,s,a1,a2⟩
  · simp only[aE.growIn,aK hlen]at hx
    split at hx
    · cases hx
    · exact⟨hx,rfl⟩
theorem aE.Ok.growIn:(E.growIn id n sz b off pos cend vs).Ok:=by
  have hlen:=lG hi;have hv:=aE.growIn_view h hi hn hb hk vs hp;obtain⟨arr,elem,pos',h1,h2⟩:=h.bufs id n0 sz b hi hb;obtain⟨arr',g1,g2,g3⟩:=rG b off elem (0,0) vs 0 E.w arr h1;have hcend:cend=arr.size:=by rw[hk]at h2;cases h2;rfl
  refine⟨?_, ?_, ?_, ?_,h.globs_of hv.cell (by intro x b vs hx;simp only[aE.growIn,aK hlen]at hx;split at hx<;>first|exact hx|cases hx),h.objs.of hv λx k hx=> ?_⟩
  rotate_left 4
  · simp only[aE.growIn,aK hlen]at hx
    split at hx
    · cases hx
    · obtain⟨⟨o,b1,b2⟩,b3⟩:=h.objs.at_ x k hx
      have hne:E.ρ x≠b:=by intro q;rw[q,hk]at b3;cases b3
      exact⟨hx,rfl,lK _ _ hne vs 0 E.w,by simp only[aE.growIn,if_neg hne]⟩
  · intro x cs hx
    simp only[aE.growIn,aK hlen]at hx
    split at hx
    · cases hx
    · obtain⟨arr2,elem2,b1,b2,b3,b4⟩:=h.rows x cs hx
      have hne:E.ρ x≠b:=by intro q;rw[q,hk]at b4;cases b4
      exact⟨arr2,elem2,by rw[<-b1];exact lK _ _ hne vs 0 E.w,b2,λi hl=>(b3 i hl).mono hv,by simp only[aE.growIn,if_neg hne];exact b4⟩
  · intro x m s b' hx hb'
    simp only[aE.growIn,aK hlen]at hx hb'
    split at hx
    · rename_i e
      subst e;rw[hb]at hb';cases hb';exact⟨arr',elem,pos,g1,by simp only[aE.growIn,if_true,g2,hcend]⟩
    · rename_i e
      obtain⟨arr2,elem2,pos2,b1,b2⟩:=h.bufs x m s b' hx hb';have hne:b'≠b:=by rintro rfl;exact e (h.injb x id _ _ _ _ _ hx hi hb' hb)
      exact⟨arr2,elem2,pos2,by rw[<-b1];exact lK _ _ hne vs 0 E.w,by simp only[aE.growIn,if_neg hne];exact b2⟩
  · intro x x' c c' a1 a2 e
    simp only[aE.growIn,aK hlen]at a1 a2 e
    split at a1<;>split at a2
    · cases a1
    · cases a1
    · cases a2
    · exact h.injr x x' c c' a1 a2 e
  · intro x x' n1 s1 n2 s2 b' a1 a2 e e'
    simp only[aE.growIn,aK hlen]at a1 a2 e e';have fix:∀y m s,(if y=id then some (AObj.buf n sz)else E.H[y]?)=some (.buf m s)->∃m' s',E.H[y]? =some (.buf m' s'):=by
      intro y m s q
      split at q
      · rename_i e;subst e;exact⟨n0,sz,hi⟩
      · exact⟨m,s,q⟩
    obtain⟨d,d1,hd⟩:=fix _ _ _ a1;obtain⟨d',d2,hd'⟩:=fix _ _ _ a2;exact h.injb x x' _ _ _ _ _ hd hd' e e'
end growIn
theorem CU(z:Array Value)(n:Nat):(Builtin.zeroCells z n).size=n*z.size:=by simp[Builtin.zeroCells]
theorem OL{E:aE}{E':aE}{b off:Nat}{ad:Addr}{es xs:List PV}{sz n cap:Nat}{tl:jM}{tl0:jM}
  (hle:E.view.le E'.view) (hs:aL E.view (.slice (some ad) es.length cap) (.slice es tl0)) (hes:∀e∈es,e.cells.length=sz) (hxs:∀e∈xs,e.cells.length=sz)
  (had:ad=⟨b,off,none⟩) (hnew:∀k,k<xs.length*sz->∃v,E'.view.cell ⟨b,off+es.length*sz+k,none⟩=some v/\∀(h:k<(aH xs).length),aL E'.view v (aH xs)[k])
  (hn:es.length+xs.length=n) (hc:n<=cap) (hm:cap<=maxLen) (ht:mV E'.view tl (some ad) n cap):
  aL E'.view (.slice (some ad) n cap) (.slice (es++xs) tl):=by
 subst had;cases hs with
 |slice _ _ _ sz' _ _ vs hlen hcap hmax hsz hcell hr htl=>
  let g:Nat->Value:=λk=>(E'.view.cell ⟨b,off+es.length*sz+k,none⟩).getD undef
  have hg:∀k,k<xs.length*sz->E'.view.cell ⟨b,off+es.length*sz+k,none⟩=some (g k)/\∀(h:k<(aH xs).length),aL E'.view (g k) (aH xs)[k]:=by
   intro k hk;obtain⟨v,h1,h2⟩:=hnew k hk;have:g k=v:=by simp only[g,h1,aSu]
   exact⟨by rw[this];exact h1,by rw[this];exact h2⟩
  have hlt:∀i j,i<xs.length->j<sz->i*sz+j<xs.length*sz:=by
   intro i j hi hj;have:(i+1)*sz<=xs.length*sz:=aTj _ z8;rw[Nat.succ_mul]at this;omega
  refine .slice _ n cap sz _ _ (λi j=>if i<es.length then vs i j else g ((i-es.length)*sz+j)) (by simp[hn]) hc hm ?_ ?_ ?_ ht
  ·intro i hi;rw[List.getElem_append]
   split
   ·exact hes _ (aTk _)
   ·exact hxs _ (aTk _)
  ·intro i j hi hj
   by_cases h:i<es.length
   ·rw[if_pos h];have hss:sz'=sz:=by rw[<-hsz _ h];exact hes _ (aTk h)
    subst hss;exact hle.cell _ _ (hcell i j h hj)
   ·rw[if_neg h,dD];have hk:=hlt (i-es.length) j z8 hj;have:=(hg _ hk).1;rw[<-this];congr 2;rw[Nat.sub_mul];have:es.length*sz<=i*sz:=aTj _ z8;omega
  ·intro i j hi hj
   by_cases h:i<es.length
   ·have e:(es++xs)[i]=es[i]:=List.getElem_append_left h;rw[if_pos h];simp only[e]at hj⊢;exact(hr i j h hj).mono hle
   ·have hi':i-es.length<xs.length:=by simp at hi;omega
    have e:(es++xs)[i]=xs[i-es.length]:=List.getElem_append_right z8;rw[if_neg h];simp only[e]at hj⊢;have hj':j<sz:=by rw[<-hxs _ (aTk hi')];exact hj
    have hk:=hlt _ j hi' hj';have h2:=kF xs hxs _ j hi' hj';have hk':(i-es.length)*sz+j<(aH xs).length:=by rw[bQ xs hxs];exact hk
    rw[aTd hk',aTd hj]at h2;simp only[Option.some.injEq]at h2;rw[<-h2];exact(hg _ hk).2 hk'
section ops
variable{P:Program}{E:aE}{N:Nat}{a:Act}{T:Nat->PV}(ho:E.Ok)
include ho
theorem FV{t u ty:TypeId}{sv xv:Value}{es xs:List PV}{tl:jM}(hs:aL E.view sv (.slice es tl))(hx0:xs≠ [])(hxn:∀w,(Builtin.lenOf xv).run P w= .ok xs.length w)
  (hxf:∀sz,(∀e∈xs,e.cells.length=sz)->∀D:aE,D.view=E.view->∃arrx,(Builtin.firstCells sz xs.length xv).run P D.w= .ok arrx D.w/\RL E.view arrx (aH xs))
  {ei:TypeId×TI} (hf:dH P t=some ei) {z:PV} (hz:dC P ei.1=some z) (hu:(∃eu,P.underlying u=some (.slice eu))\/P.underlying u=some .string) (hzf:z.fits ei.2=true) {fresh:Nat} {v:PV} {eff:qD}
  (hv:(if(es.length+xs.length)*ei.2.bytes<=2^47/\es.length+xs.length<=maxLen/\(∀e∈es,e.cells.length=ei.2.sz)/\(∀e∈xs,e.cells.length=ei.2.sz/\e.cells.all PV.isCell=true)/\0<ei.2.sz then
   match tl with
   | .full=>some (.slice (es++xs) (.tok fresh),some (fresh, .buf (es.length+xs.length) ei.2.sz))
   | .tok id=>match E.H[id]? with
    |some (.buf n sz)=>if n=es.length/\sz=ei.2.sz then some (.slice (es++xs) (.tok id),some (id, .buf (es.length+xs.length) sz))else none
    |_=>none
   | .none=>none
  else none)=some (v,eff)) (hfr:∀o,eff=some (fresh,o)->tl= .full->E.H[fresh]? =some .unborn):
  ∃E' val,(Builtin.append_ #[t,u] ty #[sv,xv]).run P E.w= .ok val E'.w/\E.le E'/\E'.Ok/\E'.H=eff.app E.H/\aL E'.view val v:=by
 obtain⟨e,i⟩:=ei;obtain⟨h1,h2⟩:=dE hf;obtain⟨d,f,h3,h4,rfl⟩:=cA h2;obtain⟨f',zv,h5,h6,rfl⟩:=eQ hz;simp only at h5 hzf hv;rw[h4]at h5;cases h5;obtain⟨hzs,hzj⟩:=PV.fits_spec hzf;simp only at hzs;obtain⟨zc1,zc2⟩:=(dR E.view zv).not_junk_cells hzj;have hzv:zv.cells.size=f.size:=zc1.trans hzs
 split at hv
 ·rename_i hc;obtain⟨hc1,hc2,hc3,hc4,hc5⟩:=hc
  try simp only at hc1 hc3 hc4 hc5
  have hxs:∀e∈xs,e.cells.length=f.size:=λe he=>(hc4 e he).1;have hxl:0<xs.length:=List.length_pos_iff.2 hx0;obtain⟨arrx,r1,r2⟩:=hxf _ hxs E rfl;obtain⟨arrs,s1,s2,ads,caps,rfl,hcap,hmax,htail⟩:=mX (P:=P) hs hc3;have hxsz:arrx.size=xs.length*f.size:=by rw[r2.1,bQ xs hxs]
  have hssz:arrs.size=es.length*f.size:=by rw[s2.1,bQ es hc3]
  have hrun0:(Builtin.append_ #[t,u] ty #[.slice ads es.length caps,xv]).run P E.w=
    (if es.length+xs.length<=caps then(do
      let new<-Builtin.firstCells f.size xs.length xv
      if let some a:=ads then storeCells (a.add (es.length*f.size)) new.toList
      pure (.slice ads (es.length+xs.length) caps):Sem Value)else(do
      let newCap<-choose (.appendCap (es.length+xs.length) caps e)
      askRoom (newCap*f.bytes)
      let old<-Builtin.firstCells f.size es.length (.slice ads es.length caps)
      let new<-Builtin.firstCells f.size xs.length xv
      let rest:=Builtin.zeroCells zv.cells (newCap- (es.length+xs.length))
      pure (.slice (some (<-Go.newRow e (old++new++rest))) (es.length+xs.length) newCap))).run P E.w:=by
   have hnc:¬Builtin.nextslicecap (es.length+xs.length) caps*f.bytes>2^48\/es.length+xs.length<=caps:=by
    by_cases hle:es.length+xs.length<=caps
    ·exact .inr hle
    ·left;have:=nW (es.length+xs.length) caps z8;have:=aTj f.bytes this;rw[Nat.mul_assoc]at this;omega
   have hmx:¬(((es.length+xs.length:Nat):Int)>IntKind.i64.max):=by
    have e1:IntKind.i64.max=9223372036854775807:=z7
    have e2:maxLen=9223372036854775807:=z7
    rw[e1];rw[e2]at hc2;omega
   rcases hu with⟨eu,hue⟩|hue
   all_goals
    simp only[Builtin.append_,aTa,aTo,aS3,aS4,aS h1,dK h4,aS hue,aS5,aS7,hxn,aTc,if_false,
     aTp,if_true]
    by_cases hle:es.length+xs.length<=caps
    ·simp only[if_pos hle,aS4];rfl
    ·have hnc':=hnc.resolve_right hle;simp only[if_neg hle,hmx,false_and,if_false,aS4,aS7,aS5,pB h4,hnc',jH h4 h6]
  by_cases hle:es.length+xs.length<=caps
  ·
   rw[if_pos hle]at hrun0;cases tl with
   |none=>simp at hv
   |full=>have:caps=es.length:=htail;omega
   |tok id=>
    simp only at hv
    split at hv
    ·rename_i n sz hid
     split at hv
     ·rename_i hns;obtain⟨rfl,rfl⟩:=hns;cases hv;obtain⟨hborn,htok⟩:=htail;have hvt:E.view.tok id=some ⟨es.length,f.size,(E.tb id).bind λb=>match E.κ b with| .buf pos cend=>some (b,pos,cend)|_=>none⟩:=by
       simp only[aE.view,hid]<;>rfl
      obtain⟨_,ht2⟩:=htok _ hvt;rcases ht2 rfl with ht2| ⟨b,pos,cend,off,hl1,hl2,hl3,hl4⟩
      ·omega
      ·simp only at hl1 hl3 hl4;subst hl2;cases htb:E.tb id with
       |none=>rw[htb]at hl1;cases hl1
       |some b'=>
        rw[htb]at hl1;simp only[aSy]at hl1
        split at hl1
        ·rename_i pos' cend' hkb;simp only[Option.some.injEq,Prod.mk.injEq]at hl1;obtain⟨rfl,rfl,rfl⟩:=hl1;replace hl3:off+es.length*f.size=pos':=hl3;replace hl4:off+caps*f.size=cend':=hl4;obtain⟨arr,elem,posx,g1,g2⟩:=ho.bufs id _ _ _ hid htb;have hce:cend'=arr.size:=by rw[hkb]at g2;cases g2;rfl
         have hfit:pos'+arrx.size<=arr.size:=by
          rw[hxsz,<-hce,<-hl3,<-hl4];have:(es.length+xs.length)*f.size<=caps*f.size:=aTj _ hle;rw[Nat.add_mul]at this;omega
         have hcellx:∀w∈arrx.toList,Value.isCell w=true:=by
          intro w hw;obtain⟨k,hk,rfl⟩:=List.getElem_of_mem hw;simp only[aSs]at hk;have hk':k<(aH xs).length:=by rw[<-r2.1];exact hk
          have:=r2.2 k hk';rw[aSo,aSt hk,aSu]at this;rw[Array.getElem_toList];refine this.isCell ?_;have hmem:=aTk hk';simp only[aH,List.mem_flatten,aTq]at hmem;obtain⟨l,⟨q,hq,rfl⟩,hql⟩:=hmem;exact aTr.1 (hc4 q hq).2 _ hql
         have hst:=uM (P:=P) b' pos' elem arrx.toList 0 E.w arr g1 hcellx (by simpa using hfit);have hp:pos'+arrx.toList.length=off+(es.length+xs.length)*f.size:=by
          rw[aSs,hxsz,Nat.add_mul,<-hl3];omega
         have hlt:es.length<es.length+xs.length:=z8
         have hle':=aE.growIn_le ho hid hlt htb hkb arrx.toList hp;have hok':=aE.Ok.growIn ho hid hlt htb hkb arrx.toList hp;refine⟨_, .slice (some ⟨b',off,none⟩) (es.length+xs.length) caps, ?_,hle',hok',rfl, ?_⟩
         ·rw[hrun0];simp only[aS4,r1,aS5,dD,hl3,hst,aS7];rfl
         ·refine OL (E:=E) hle'.view hs hc3 hxs rfl (λk hk=> ?_) rfl hle hmax ⟨hle'.view.born _ hborn,λt' ht'=> ?_⟩
          ·obtain⟨arr',q1,q2,q3⟩:=rG b' pos' elem (0,0) arrx.toList 0 E.w arr g1;have hka:k<arrx.size:=by rw[hxsz];exact hk
           refine⟨arrx.getD k undef, ?_,λh=>(r2.2 k h).mono hle'.view⟩;refine aE.cell_of ?_ ?_
           ·simp only[aE.growIn,if_true,rZ.stable,decide_eq_true_eq];rw[Nat.add_mul];omega
           ·show World.cell? (iE E.w ⟨b',pos',none⟩ arrx.toList 0) _=_;rw[kZ q1,q3 _ z8,if_pos (by rw[aSs (xs:=arrx),hxsz];omega)];rw[show off+es.length*f.size+k- (pos'+0)=k by omega];rw[aTf,aSo,aSt hka];rfl
          ·have hlen:=lG hid;simp only[aE.view,aE.growIn,aK hlen,if_true,htb,aSy,Option.some.injEq]at ht';subst ht';refine⟨aSl _,λ_=>.inr ⟨b',_,cend',off,rfl,rfl,rfl,hl4⟩⟩
        ·cases hl1
     ·cases hv
    ·cases hv
  ·
   rw[if_neg hle]at hrun0;obtain⟨c,hc6,hc7,hc8⟩:=lZ (P:=P) (w:=E.w) (es.length+xs.length) caps e;have hcm:c<=maxLen:=by
    have:=hc8 (by have e2:maxLen=2^63-1:=rfl;omega);have e2:maxLen=2^63-1:=rfl;omega
   obtain⟨id,hid,rfl,rfl⟩:∃id,(E.H[id]? =some .unborn\/∃n0,E.H[id]? =some (.buf n0 f.size)/\n0<es.length+xs.length)/\v= .slice (es++xs) (.tok id)/\eff=some (id, .buf (es.length+xs.length) f.size):=by
    cases tl with
    |none=>simp at hv
    |full=>
     simp only[Option.some.injEq,Prod.mk.injEq]at hv;obtain⟨rfl,rfl⟩:=hv;exact⟨fresh, .inl (hfr _ rfl rfl),rfl,rfl⟩
    |tok id=>
     simp only at hv
     split at hv
     ·rename_i n sz hid
      split at hv
      ·rename_i hns;obtain⟨rfl,rfl⟩:=hns;cases hv;exact⟨id, .inr ⟨_,hid,z8⟩,rfl,rfl⟩
      ·cases hv
     ·cases hv
   have hd:=ho.drew;obtain⟨arrx,r1,r2⟩:=hxf _ hxs E.drew rfl;obtain⟨arrs,s1,s2,_⟩:=mX (P:=P) (E:=E.drew) hs hc3;have hxsz:arrx.size=xs.length*f.size:=by rw[r2.1,bQ xs hxs]
   have hssz:arrs.size=es.length*f.size:=by rw[s2.1,bQ es hc3]
   have hzl:=qV (V:=E.view) zv hzj (c- (es.length+xs.length))
   let arr:Array Value:=arrs++arrx++Builtin.zeroCells zv.cells (c- (es.length+xs.length))
   have harr:arr.size=c*f.size:=by
    simp only[arr,Array.size_append,hssz,hxsz,CU,hzv];rw[<-Nat.add_mul,<-Nat.add_mul];congr 1;omega
   have hle':=aE.newBuf_le (E:=E.drew) hd (n:=es.length+xs.length) (sz:=f.size) hid arr e ((es.length+xs.length)*f.size);have hok':=aE.Ok.newBuf (E:=E.drew) hd (n:=es.length+xs.length) (sz:=f.size) hid arr e ((es.length+xs.length)*f.size);have hlen:=tQ (E:=E.drew) (n:=es.length+xs.length) hid;refine⟨_, .slice (some ⟨E.w.heap.size,0,none⟩) (es.length+xs.length) c, ?_,E.drew_le.trans hle',hok',rfl, ?_⟩
   ·rw[hrun0];have hc6':(choose (.appendCap (es.length+xs.length) caps e)).run P E.w= .ok c E.drew.w:=hc6;simp only[aS4,hc6',aS5,CI,s1,r1,aS7,Go.newRow,run_newObj];rfl
   ·have hall:∀q∈es++xs,q.cells.length=f.size:=by
     intro q hq;rcases aTs.1 hq with hq|hq
     ·exact hc3 q hq
     ·exact hxs q hq
    have hrl:=pA s2 r2;rw[<-cN]at hrl;have hfl:=bQ _ hall;rw[aTi]at hfl;have hgd:∀k,k<(es.length+xs.length)*f.size->arr.getD k undef=(arrs++arrx).getD k undef:=by
     intro k hk;rw[aSo,aSo];rw[show arr=(arrs++arrx)++Builtin.zeroCells zv.cells (c- (es.length+xs.length))from rfl];rw[Array.getElem?_append_left (by rw[hrl.1,hfl];exact hk)]
    refine rX (sz:=f.size) (arr:=arr) (λk hk=> ?_) hall (λk hk=> ?_) aTi hc7 hcm ⟨⟨.buf (es.length+xs.length) f.size, ?_,z6⟩,λt' ht'=> ?_⟩
    ·rw[aTi]at hk;refine aE.cell_of ?_ ?_
     ·simp only[aE.newBuf,if_pos (show E.w.heap.size=E.drew.w.heap.size from rfl),rZ.stable,decide_eq_true_eq];exact hk
     ·have hnew:(E.drew.newBuf id (es.length+xs.length) f.size arr e ((es.length+xs.length)*f.size)).w.heap[E.w.heap.size]? =some (.cells arr e (0,0)):=heap_alloc_new _ _;have hka:k<arr.size:=by
       rw[harr];have:(es.length+xs.length)*f.size<=c*f.size:=aTj _ hc7;omega
      rw[kZ hnew,aSo,aSt hka];rfl
    ·rw[hgd k (by rw[hfl]at hk;exact hk)];exact(hrl.2 k hk).mono hle'.view
    ·simp only[aE.newBuf];exact aSz hlen
    ·simp only[aE.view,aE.newBuf,aK hlen,if_true,aSy,Option.some.injEq]at ht';subst ht';refine⟨aSl _,λ_=>.inr ⟨E.w.heap.size,_,arr.size,0,rfl,rfl, ?_, ?_⟩⟩
     ·simp
     ·rw[harr];simp
 ·cases hv
theorem KS{t u ty:TypeId}{sv xv:Value}{s x:PV}(hs:aL E.view sv s)(hx:aL E.view xv x){ei:TypeId×TI}(hf:dH P t=some ei){z:PV}(hz:dC P ei.1=some z)
  (hu:(dH P u).isSome=true) (hzf:z.fits ei.2=true) {fresh:Nat} {v:PV} {eff:qD} (hv:dQ ei.2 fresh E.H s x=some (v,eff)) (hfr:∀o,eff=some (fresh,o)->s≠ .junk->(∃es,s= .slice es .full)->E.H[fresh]? =some .unborn):
  ∃E' val,(Builtin.append_ #[t,u] ty #[sv,xv]).run P E.w= .ok val E'.w/\E.le E'/\E'.Ok/\E'.H=eff.app E.H/\aL E'.view val v:=by
 obtain⟨e,i⟩:=ei;obtain⟨h1,h2⟩:=dE hf;obtain⟨d,f,h3,h4,rfl⟩:=cA h2;obtain⟨f',zv,h5,h6,rfl⟩:=eQ hz;simp only at h5 hzf hv;rw[h4]at h5;cases h5;obtain⟨hzs,hzj⟩:=PV.fits_spec hzf;simp only at hzs;obtain⟨zc1,zc2⟩:=(dR E.view zv).not_junk_cells hzj;have hzv:zv.cells.size=f.size:=zc1.trans hzs;obtain⟨eu,hue⟩:∃eu,P.underlying u=some (.slice eu):=by
  cases hq:dH P u with
  |none=>rw[hq]at hu;cases hu
  |some q=>obtain⟨q1,q2⟩:=q;exact⟨q1,(dE hq).1⟩
 unfold dQ at hv
 split at hv
 ·rename_i es tl xs tlx
  split at hv
  ·
   rename_i hx0;subst hx0;cases hv;obtain⟨ad,cap,rfl,hcap,hmax⟩:∃ad cap,sv= .slice ad es.length cap/\es.length<=cap/\cap<=maxLen:=by
    cases hs with
    |nils _ _=>exact⟨none,0,rfl,aSl _,aTn _⟩
    |slice ad len cap sz _ _ vs hlen hcap hmax hsz hc hr ht=>subst hlen;exact⟨some ad,cap,rfl,hcap,hmax⟩
   obtain⟨ax,cx,rfl⟩:∃ax cx,xv= .slice ax 0 cx:=by
    cases hx with
    |nils _ _=>exact⟨none,0,rfl⟩
    |slice ad len cap sz _ _ vs hlen hcap hmax hsz hc hr ht=>simp at hlen;subst hlen;exact⟨some ad,cap,rfl⟩
   refine⟨E, .slice ad es.length cap, ?_, .refl E,ho,rfl,hs⟩;have hfc:∀(v:Value),(∃ax cx,v= .slice ax 0 cx)->(Builtin.firstCells f.size 0 v).run P E.w= .ok #[] E.w:=by
    rintro v ⟨ax,cx,rfl⟩;cases ax<;>simp only[Builtin.firstCells,Nat.zero_mul,loadCells,loadCellsFrom,aS7]
   simp only[Builtin.append_,aTa,aTo,aS3,aS4,aS h1,dK h4,aS hue,aS5,aS7,Builtin.lenOf,Nat.add_zero,aTc,if_false,
    aTp,if_true,hcap,hfc _ ⟨ax,cx,rfl⟩]
   cases ad<;>simp[storeCells]
  ·rename_i hx0;refine FV ho hs hx0 (λw=> ?_) (λsz hxs D hD=> ?_) hf hz (.inl ⟨_,hue⟩) hzf hv (λo h1 h2=>hfr o h1 z6 ⟨es,by rw[h2]⟩)
   ·cases hx with
    |nils _ _=>rfl
    |slice ad len cap sz _ _ vs hlen hcap hmax hsz hc hr ht=>subst hlen;rfl
   ·obtain⟨arrx,r1,r2,_⟩:=mX (P:=P) (E:=D) (by rw[hD];exact hx) hxs;exact⟨arrx,r1,by rw[hD]at r2;exact r2⟩
 ·cases hv
end ops
theorem UI{P:Program}{w:World}{op:BinOp}{t:TypeId}{x y:Operand}{k k':IntKind}{a b:Int}:(eqGuard op t x y (.int k a) (.int k' b)).run P w= .ok () w:=by cases op<;>rfl
theorem ON{P:Program}{w:World}{op:BinOp}{t:TypeId}{x y:Operand}{a b:Bool}:(eqGuard op t x y (.bool a) (.bool b)).run P w= .ok () w:=by cases op<;>rfl
theorem UU{P:Program}{w:World}{op:BinOp}{t:TypeId}{x y:Operand}{a b:ByteArray}:(eqGuard op t x y (.string a) (.string b)).run P w= .ok () w:=by cases op<;>rfl
theorem AB{P:Program}{w:World}{op:BinOp}{t:TypeId}{x y:Operand}{a b:Option Addr}:(eqGuard op t x y (.pointer a) (.pointer b)).run P w= .ok () w:=by cases op<;>rfl
section ops
variable{P:Program}{E:aE}{N:Nat}{a:Act}{T:Nat->PV}(ht:eR E.view N a T)
theorem WH{op:BinOp}{xt:TypeId}{x y:Operand}{vx vy:Value}{px py:PV}(hx:aL E.view vx px)(hy:aL E.view vy py){v:PV}(hv:dW P op xt px py=some v):∃val,(do eqGuard op xt x y vx vy;binOp op xt vx vy:Sem Value).run P E.w= .ok val E.w/\aL E.view val v:=by
  unfold dW at hv
  split at hv
  ·
    rename_i k n k' n';obtain rfl:=hx.int_inv;obtain rfl:=hy.int_inv
    split at hv
    · rename_i hk
      subst hk;have hg:= @UI P E.w op xt x y k k n n';cases op<;>simp only[aS4,hg,aS5]<;>simp only[reduceCtorEq,Option.some.injEq]at hv
      case add=>subst hv;exact⟨_,by simp only[binOp,ne_eq,not_true_eq_false,if_false,Op.intArith,aS7], .int _ _⟩
      case sub=>subst hv;exact⟨_,by simp only[binOp,ne_eq,not_true_eq_false,if_false,Op.intArith,aS7], .int _ _⟩
      case mul=>subst hv;exact⟨_,by simp only[binOp,ne_eq,not_true_eq_false,if_false,Op.intArith,aS7], .int _ _⟩
      case quo=>
        split at hv
        · cases hv
        · rename_i hz;cases hv;exact⟨_,by simp only[binOp,ne_eq,not_true_eq_false,if_false,Op.intDiv,hz,aS7], .int _ _⟩
      case rem=>
        split at hv
        · cases hv
        · rename_i hz;cases hv;exact⟨_,by simp only[binOp,ne_eq,not_true_eq_false,if_false,Op.intDiv,hz,aS7], .int _ _⟩
      case eql=>subst hv;exact⟨.bool (n==n'),by simp only[binOp,ne_eq,not_true_eq_false,if_false,Op.intCmp,aS7], .bool _⟩
      case neq=>subst hv;exact⟨.bool (n != n'),by simp only[binOp,ne_eq,not_true_eq_false,if_false,Op.intCmp,aS7], .bool _⟩
      all_goals (subst hv;exact⟨_,by simp only[binOp,ne_eq,not_true_eq_false,if_false,Op.intCmp,aS7], .bool _⟩)
    · cases hv
  ·
    rename_i b b';obtain rfl:=hx.bool_inv;obtain rfl:=hy.bool_inv
    split at hv
    · rename_i hb
      unfold aBt at hb
      split at hb
      · rename_i hu
        have hg:= @ON P E.w op xt x y b b';have he:(Op.equal xt (.bool b) (.bool b')).run P E.w= .ok (b==b') E.w:=by
          have key:∀d,(Op.equalIn (d+1) xt (.bool b) (.bool b')).run P E.w= .ok (b==b') E.w:=by
            intro d;simp only[Op.equalIn,aS4,aS hu,aS5,aS7]
          exact key 9999
        cases op<;>simp only[aS4,hg,aS5]<;>simp only[reduceCtorEq,Option.some.injEq]at hv
        all_goals (subst hv;exact⟨_,by simp only[binOp,aS4,he,aS5,aS7,aTt,aTp], .bool _⟩)
      · cases hb
    · cases hv
  ·
    rename_i s s';cases hx with
    |str s=>
      cases hy with
      |str s'=>
        have hg:= @UU P E.w op xt x y s s';have hsz:∀s:ByteArray,s.size=s.data.toList.length:=λs=>rfl;cases op<;>simp only[aS4,hg,aS5]<;>simp only[reduceCtorEq,Option.some.injEq]at hv
        case add=>
          split at hv
          · rename_i hl
            cases hv;have e1:IntKind.i64.max=9223372036854775807:=z7
            have e2:maxLen=9223372036854775807:=z7
            have hb:¬((s.size+s'.size:Nat):Int)>IntKind.i64.max:=by rw[e1,hsz,hsz];rw[e2]at hl;omega
            refine⟨.string (s++s'), ?_, ?_⟩
            · simp only[binOp,Op.stringOp,if_neg hb,Sem.run_ite,aS7]
            · have:(s++s').data.toList=s.data.toList++s'.data.toList:=z6
              rw[<-this];exact .str _
          · cases hv
        all_goals (subst hv;refine⟨_,by simp only[binOp,Op.stringOp,aS7];rfl, ?_⟩;simp only[ByteArray.toList_eq])
        · rw[show(s.data.toList==s'.data.toList)=decide (s.data.toList=s'.data.toList)by rw[aTu];simp];exact .bool _
        · rw[show(s.data.toList==s'.data.toList)=decide (s.data.toList=s'.data.toList)by rw[aTu];simp];exact .bool _
        · exact .bool _
  ·
    split at hv
    · rename_i hb
      unfold mM at hb
      split at hb
      · rename_i el hu
        cases hx;cases hy;have hg:= @AB P E.w op xt x y none none;have he:(Op.equal xt (.pointer none) (.pointer none)).run P E.w= .ok true E.w:=by
          have key:∀d,(Op.equalIn (d+1) xt (.pointer none) (.pointer none)).run P E.w= .ok true E.w:=by
            intro d;simp only[Op.equalIn,aS4,aS hu,aS5,aS7,Option.isNone_none]
          exact key 9999
        cases op<;>simp only[aS4,hg,aS5]<;>simp only[reduceCtorEq,Option.some.injEq]at hv
        all_goals (subst hv;exact⟨_,by simp only[binOp,aS4,he,aS5,aS7,aTt,aTp], .bool _⟩)
      · cases hb
    · cases hv
  · split at hv
    · rename_i hb
      unfold mM at hb
      split at hb
      · rename_i el hu
        obtain⟨ad,vs,rfl,_,_⟩:=hx.iptr_inv;cases hy;have hg:= @AB P E.w op xt x y (some ad) none;have he:(Op.equal xt (.pointer (some ad)) (.pointer none)).run P E.w= .ok false E.w:=by
          have key:∀d,(Op.equalIn (d+1) xt (.pointer (some ad)) (.pointer none)).run P E.w= .ok false E.w:=by
            intro d;simp only[Op.equalIn,aS4,aS hu,aS5,aS7]
          exact key 9999
        cases op<;>simp only[aS4,hg,aS5]<;>simp only[reduceCtorEq,Option.some.injEq]at hv
        all_goals (subst hv;exact⟨_,by simp only[binOp,aS4,he,aS5,aS7,aTt,aTp], .bool _⟩)
      · cases hb
    · cases hv
  · split at hv
    · rename_i hb
      unfold mM at hb
      split at hb
      · rename_i el hu
        obtain⟨rfl,_⟩:=hx.optr_inv;cases hy;have hg:=λad=> @AB P E.w op xt x y (some ad) none;have he:∀ad,(Op.equal xt (.pointer (some ad)) (.pointer none)).run P E.w= .ok false E.w:=by
          intro ad;have key:∀d,(Op.equalIn (d+1) xt (.pointer (some ad)) (.pointer none)).run P E.w= .ok false E.w:=by
            intro d;simp only[Op.equalIn,aS4,aS hu,aS5,aS7]
          exact key 9999
        cases op<;>simp only[aS4,hg,aS5]<;>simp only[reduceCtorEq,Option.some.injEq]at hv
        all_goals (subst hv;exact⟨_,by simp only[binOp,aS4,he,aS5,aS7,aTt,aTp], .bool _⟩)
      · cases hb
    · cases hv
  · cases hv
theorem YX{op:UnOp}{vx:Value}{px:PV}(hx:aL E.view vx px){v:PV}(hv:aun op px=some v):∃val,(Op.unary op vx).run P E.w= .ok val E.w/\aL E.view val v:=by
  unfold aun at hv
  split at hv
  · obtain rfl:=hx.bool_inv;cases hv;exact⟨_,rfl, .bool _⟩
  · obtain rfl:=hx.int_inv;cases hv;exact⟨_,rfl, .int _ _⟩
  · cases hv
theorem FQ{s d:TypeId}{vx:Value}{k0:IntKind}{n:Int}(hx:aL E.view vx (.int k0 n)){k:IntKind}(hk:GN P d=some k)(hs:(P.underlying s).isSome=true):∃val,(convert s d vx).run P E.w= .ok val E.w/\aL E.view val (.int k (k.wrap n)):=by
  obtain rfl:=hx.int_inv;unfold GN at hk
  split at hk
  · rename_i k' hu
    cases hk;cases hq:P.underlying s with
    |none=>rw[hq]at hs;cases hs
    |some ds=>
      refine⟨.int k (k.wrap n), ?_, .int _ _⟩;simp only[convert,aS4,aS hq,aS hu,aS5,Conv.intToInt,aS7]
  · cases hk
theorem lB(n:Nat)(z:PV):aH (aS6 n z)=(aS6 n z.cells).flatten:=by simp[aH]
theorem BX(p:PV):p.drop1.cells=p.cells.map PV.drop0:=by cases p<;>rfl
theorem aL.elems_drop1{V:cS}{v:Value}{es:List PV}{tl:jM}(h:aL V v (.slice es tl)):aL V v (.slice (es.map PV.drop1) tl):=by
  cases h with
  |nils _ ht=>exact .nils _ ht
  |slice a len cap sz _ _ vs hlen hcap hmax hsz hc hr ht=>
    refine .slice a len cap sz _ _ vs (by simpa using hlen) hcap hmax (λi h=> ?_) hc (λi j hi hj=> ?_) ht
    · simp only[aSh,PV.drop1_cells_length];exact hsz i (by simpa using h)
    · have hi':i<es.length:=by simpa using hi
      have hj':j<(es[i].cells).length:=by simpa[PV.drop1_cells_length]using hj
      have h0:=(hr i j hi' hj').drop0;have he:(((es.map PV.drop1)[i]).cells)[j]=(es[i].cells)[j].drop0:=by
        simp only[aSh,BX]
      rw[he];exact h0
theorem BY(ho:E.Ok){t:TypeId}{lv cv:Value}{l c:PV}(hl:aL E.view lv l)(hc:aL E.view cv c){ei:TypeId×TI}(hf:dH P t=some ei){z:PV}(hz:dC P ei.1=some z){mt:Bool}{fresh:Nat}{v:PV}{eff:qD}(hv:lE mt z ei.2 fresh l c=some (v,eff))(hfr:∀o,eff=some (fresh,o)->E.H[fresh]? =some .unborn):∃E' val,(Instr.makeSlice t lv cv).run P E.w= .ok val E'.w/\E.le E'/\E'.Ok/\E'.H=eff.app E.H/\aL E'.view val v:=by
  obtain⟨e,i⟩:=ei;obtain⟨h1,h2⟩:=dE hf;obtain⟨d,f,h3,h4,rfl⟩:=cA h2;obtain⟨f',zv,h5,h6,rfl⟩:=eQ hz;simp only at h5 hv;rw[h4]at h5;cases h5;unfold lE at hv
  split at hv
  · rename_i l c
    obtain rfl:=hl.int_inv;obtain rfl:=hc.int_inv
    split at hv
    · rename_i hcnd
      obtain⟨c1,c2,c3,c4,c5,c6⟩:=hcnd;simp only at c3 c5 c6;obtain⟨hzs,hzj⟩:=PV.fits_spec c5;simp only at hzs;obtain⟨zc1,zc2⟩:=(dR E.view zv).not_junk_cells hzj;have hzv:zv.cells.size=f.size:=zc1.trans hzs;have e2:maxLen=9223372036854775807:=z7
      have hw:∀n:Int,0<=n->n<=maxLen->IntKind.i64.wrap n=n:=by
        intro n h0 h1;rw[e2]at h1;simp[IntKind.wrap,IntKind.bits,IntKind.signed];omega
      have hwl:=hw l c1 z8;have hwc:=hw c z8 c4;have htl:¬((f.bytes:Int)*c>2^48):=by
        rw[Int.mul_comm];have:(2:Int)^47<=2^48:=z7
        omega
      let arr:Array Value:=(Array.range (c.toNat*f.size)).map (zv.cells[· %zv.cells.size]!)
      have hrl0:=qV (V:=E.view) zv hzj c.toNat
      rw[hzv]at hrl0;have harr:arr.size=c.toNat*f.size:=by simp[arr]
      have hrun:(Instr.makeSlice t (.int .i64 l) (.int .i64 c)).run P E.w= .ok (.slice (some ⟨E.w.heap.size,0,none⟩) l.toNat c.toNat) (E.w.alloc (.cells arr e)):=by
        simp only[Instr.makeSlice,aS4,aS h1,aS5,asInt,asIntOf,aS7,pB h4,hwl,hwc];have hn1:¬c<0:=z8
        have hn2:¬l<0:=z8
        have hn3:¬l>c:=z8
        simp only[hn1,hn2,hn3,htl,decide_false,Bool.or_self,aTc,if_false,aS4,CI,aS5,dK h4]
        by_cases h0:c.toNat*f.size=0
        · simp only[h0,if_true,aS7,aS5,newRow,aS4,run_newObj]
          have:arr= #[]:=by simp only[arr,h0];simp
          rw[this];simp[Array.range]
        · simp only[if_neg h0,aS4,jH h4 h6,aS5,aS7,newRow,run_newObj]
          simp only[arr,hzv];rfl
      have hes:∀q∈aS6 c.toNat (aT zv),q.cells.length=f.size:=by
        intro q hq;rw[(List.mem_replicate.1 hq).2,hzs]
      have hrl:RL E.view arr (aH (aS6 c.toNat (aT zv))):=by
        simp only[arr,hzv];exact hrl0
      have hcm:c.toNat<=maxLen:=z8
      split at hv
      ·
        cases hv;have hid:=hfr _ rfl;rw[lB]at hrl;refine⟨E.newRow fresh arr e _,_,hrun,aE.newRow_le ho hid _ _ _,aE.Ok.newRow ho hid arr e _ hrl.1 hrl.2,rfl, ?_⟩;have:=aL.msl (V:=(E.newRow fresh arr e ((aS6 c.toNat (aT zv).cells).flatten)).view) fresh 0 l.toNat c.toNat
          ⟨.row _,by simp only[aE.newRow];exact aSz (lG hid),z6⟩ hcm
        simpa[aE.view,aE.newRow]using this
      · split at hv
        · rename_i hlc
          subst hlc;cases hv;have hle:=aE.newFixed_le ho (.cells arr e);refine⟨E.newFixed (.cells arr e),_,hrun,hle,ho.newFixed _,rfl, ?_⟩;rw[<-List.map_replicate];exact(rY (sz:=f.size) wM hes (hrl.mono hle.view) z6 hcm).elems_drop1
        · rename_i hlc
          cases hv;have hid:=hfr _ rfl;have hle:=aE.newBuf_le ho (n:=l.toNat) (sz:=f.size) (.inl hid) arr e (l.toNat*f.size);have hlen:=lG hid;refine⟨E.newBuf fresh l.toNat f.size arr e (l.toNat*f.size),_,hrun,hle,aE.Ok.newBuf ho (.inl hid) arr e _,rfl, ?_⟩;have hlen2:(aS6 l.toNat (aT zv)).length=l.toNat:=z6
          have hes':∀q∈aS6 l.toNat (aT zv),q.cells.length=f.size:=by
            intro q hq;rw[(List.mem_replicate.1 hq).2,hzs]
          have hle2:l.toNat*f.size<=c.toNat*f.size:=aTj _ z8;have hfl:=bQ _ hes';rw[hlen2]at hfl;have hfl2:=bQ _ hes;rw[List.length_replicate]at hfl2;rw[<-List.map_replicate];refine aL.elems_drop1 (rX (sz:=f.size) (arr:=arr) (λk hk=> ?_) hes' (λk hk=> ?_) hlen2 z8 hcm ⟨⟨.buf l.toNat f.size, ?_,z6⟩,λt' ht'=> ?_⟩)
          · rw[hlen2]at hk
            refine aE.cell_of ?_ ?_
            · simp only[aE.newBuf,if_true,rZ.stable,decide_eq_true_eq];exact hk
            · have hnew:(E.newBuf fresh l.toNat f.size arr e (l.toNat*f.size)).w.heap[E.w.heap.size]? =some (.cells arr e (0,0)):=heap_alloc_new _ _
              rw[kZ hnew,aSo,aSt z8];rfl
          · rw[hfl]at hk
            have hk2:k<(aH (aS6 c.toNat (aT zv))).length:=by rw[hfl2];omega
            have h':=hrl.2 k hk2;have heq:(aH (aS6 l.toNat (aT zv)))[k]'(by rw[hfl];exact hk)=(aH (aS6 c.toNat (aT zv)))[k]:=by
              have:aS6 c.toNat (aT zv)=aS6 l.toNat (aT zv)++aS6 (c.toNat-l.toNat) (aT zv):=by
                rw[List.replicate_append_replicate];congr 1;omega
              have h3:aH (aS6 c.toNat (aT zv))=aH (aS6 l.toNat (aT zv))++aH (aS6 (c.toNat-l.toNat) (aT zv)):=by rw[this,cN]
              have h4:=aSv (l₂:=aH (aS6 (c.toNat-l.toNat) (aT zv))) (show k<(aH (aS6 l.toNat (aT zv))).length by rw[hfl];exact hk);rw[<-h3,aTd hk2,aTd (by rw[hfl];exact hk)]at h4;simpa using h4.symm
            rw[heq];exact h'.mono hle.view
          · simp only[aE.newBuf];exact aSz hlen
          · simp only[aE.view,aE.newBuf,aK hlen,if_true,aSy,Option.some.injEq]at ht'
            subst ht';refine⟨aSl _,λ_=>.inr ⟨E.w.heap.size,_,arr.size,0,rfl,rfl, ?_, ?_⟩⟩
            · simp
            · rw[harr];simp
    · cases hv
  · cases hv
end ops
theorem oB{α β:Type}{o:Option α}{f:α->Option β}{b:β}(h:o.bind f=some b):∃a,o=some a/\f a=some b:=Option.bind_eq_some_iff.mp h
def aE.newObj(E:aE)(id:Nat)(o:Obj)(k:sA):aE:=
 {w:=E.w.alloc o,κ:=λb=>if b=E.w.heap.size then .mut else E.κ b,ρ:=λi=>if i=id then E.w.heap.size else E.ρ i,tb:=E.tb,H:=E.H.set id (.obj k)}
section newObj
variable{E:aE}(h:E.Ok){id:Nat}(hi:E.H[id]? =some .unborn)(o:Obj)(k:sA)
include h hi
theorem aE.newObj_view:E.view.le (E.newObj id o k).view:=by
 have hlen:=lG hi;have hne:∀x,pV E.H x->x≠id:=by rintro x ⟨o,h1,h2⟩ rfl;rw[hi]at h1;cases h1;exact h2 rfl
 refine⟨λa v hc=> ?_,λx hb=> ?_,λx hb=> ?_,λx t' hb ht=>⟨t', ?_, .inl rfl⟩⟩
 ·have hl:=cell?_lt (aE.cell_stable hc);simp only[aE.view]at hc⊢
  split at hc
  ·rename_i hs;have hne:a.block≠E.w.heap.size:=z8
   simp only[aE.newObj,if_neg hne,hs,if_true];rw[cell?_congr (heap_alloc _ _ _ hl)];exact hc
  ·cases hc
 ·have:=hne x hb;obtain⟨o,h1,h2⟩:=hb;exact⟨o,by simp only[aE.newObj,aK hlen,if_neg this];exact h1,h2⟩
 ·simp only[aE.view,aE.newObj,if_neg (hne x hb)]
 ·have:=hne x hb;simp only[aE.view,aE.newObj,aK hlen,if_neg this]at ht⊢
  split at ht
  ·rename_i n sz hx;rw[<-ht];cases htb:E.tb x with
   |none=>rfl
   |some b=>
    have:=h.bufBlock hx htb;have hne:b≠E.w.heap.size:=z8
    simp only[aSy,if_neg hne]
  ·cases ht
theorem aE.newObj_le:E.le (E.newObj id o k):=by
 have hlen:=lG hi;refine⟨rfl,rfl,rfl,by simp[aE.newObj],λb hb _=>⟨?_,heap_alloc _ _ _ hb⟩,aE.newObj_view h hi o k,λb hb=>Or.imp ?_ (Or.imp ?_ ?_)⟩
 ·have hne:b≠E.w.heap.size:=z8
  simp only[aE.newObj,if_neg hne]
 ·rintro⟨x,cs',h1,h2⟩;simp only[aE.newObj,aK hlen]at h1 h2
  split at h1
  ·cases h1
  ·rename_i e;rw[if_neg e]at h2;exact⟨x,cs',h1,h2⟩
 ·rintro⟨x,n,sz,h1,h2⟩;simp only[aE.newObj,aK hlen]at h1 h2
  split at h1
  ·cases h1
  ·exact⟨x,n,sz,h1,h2⟩
 ·rintro⟨x,k',h1,h2⟩;simp only[aE.newObj,aK hlen]at h1 h2
  split at h1
  ·rename_i e;rw[if_pos e]at h2;omega
  ·rename_i e;rw[if_neg e]at h2;exact⟨x,k',h1,h2⟩
theorem aE.Ok.newObj(hr:OR E.view k o):(E.newObj id o k).Ok:=by
 have hlen:=lG hi;have hv:=aE.newObj_view h hi o k;refine⟨?_, ?_, ?_, ?_,h.globs_of hv.cell (by intro x b vs hx;simp only[aE.newObj,aK hlen]at hx;split at hx<;>first|exact hx|cases hx), ?_, ?_⟩
 ·intro x cs' hx;simp only[aE.newObj,aK hlen]at hx
  split at hx
  ·cases hx
  ·rename_i e;have hl:=h.rowBlock hx;obtain⟨arr',elem',h1,h2,h3,h4⟩:=h.rows x cs' hx;have hne:E.ρ x≠E.w.heap.size:=z8
   refine⟨arr',elem', ?_,h2,λi hl=>(h3 i hl).mono hv, ?_⟩
   ·simp only[aE.newObj,if_neg e];rw[<-h1];exact heap_alloc _ _ _ hl
   ·simp only[aE.newObj,if_neg e,if_neg hne];exact h4
 ·intro x n sz b hx hb;simp only[aE.newObj,aK hlen]at hx hb
  split at hx
  ·cases hx
  ·have hl:=h.bufBlock hx hb;obtain⟨arr',elem',pos,h1,h2⟩:=h.bufs x n sz b hx hb;have hne:b≠E.w.heap.size:=z8
   exact⟨arr',elem',pos,by rw[<-h1];exact heap_alloc _ _ _ hl,by simp only[aE.newObj,if_neg hne];exact h2⟩
 ·intro x x' c c' h1 h2 e;simp only[aE.newObj,aK hlen]at h1 h2 e
  split at h1<;>split at h2
  ·cases h1
  ·cases h1
  ·cases h2
  ·rename_i a b;rw[if_neg a,if_neg b]at e;exact h.injr x x' c c' h1 h2 e
 ·intro x x' n sz n' sz' b h1 h2 e e';simp only[aE.newObj,aK hlen]at h1 h2 e e'
  split at h1<;>split at h2
  ·cases h1
  ·cases h1
  ·cases h2
  ·exact h.injb x x' n sz n' sz' b h1 h2 e e'
 ·intro x k' hx;simp only[aE.newObj,aK hlen]at hx
  split at hx
  ·rename_i e;cases hx;exact⟨⟨o,by simp only[aE.newObj,if_pos e];exact heap_alloc_new _ _,hr.mono hv⟩,by simp only[aE.newObj,if_pos e,if_true]⟩
  ·rename_i e;have hl:=h.objs.lt hx;obtain⟨⟨o',a1,a2⟩,a3⟩:=h.objs.at_ x k' hx;refine⟨⟨o', ?_,a2.mono hv⟩, ?_⟩
   ·simp only[aE.newObj,if_neg e];rw[<-a1];exact heap_alloc _ _ _ hl
   ·simp only[aE.newObj,if_neg e,if_neg (Nat.ne_of_lt hl)];exact a3
 ·intro x x' c c' h1 h2 e;simp only[aE.newObj,aK hlen]at h1 h2 e
  split at h1<;>split at h2
  ·omega
  ·rename_i a b;rw[if_pos a,if_neg b]at e;have:=h.objs.lt h2;omega
  ·rename_i a b;rw[if_neg a,if_pos b]at e;have:=h.objs.lt h1;omega
  ·rename_i a b;rw[if_neg a,if_neg b]at e;exact h.objs.inj x x' c c' h1 h2 e
end newObj
def aE.setObj(E:aE)(id:Nat)(w':World)(k:sA):aE:= {E with w:=w',H:=E.H.set id (.obj k)}
structure World.Turned(w w':World)(b:Nat):Prop where
 os:w'.os=w.os
 tape:w'.tape=w.tape
 output:w'.output=w.output
 size:w'.heap.size=w.heap.size
 other:∀x,x≠b->w'.heap[x]? =w.heap[x]?
section setObj
variable{E:aE}(h:E.Ok){id:Nat}{k0:sA}(hi:E.H[id]? =some (.obj k0)){w':World}(ht:World.Turned E.w w' (E.ρ id))(k:sA)
include h hi ht
theorem aE.setObj_view:E.view.le (E.setObj id w' k).view:=by
 have hlen:=lG hi;obtain⟨_,hk⟩:=h.objs.at_ id k0 hi;refine⟨λa u hc=> ?_,λx hb=> ?_,λx hb=>rfl,λx t' hb hx=>⟨t', ?_, .inl rfl⟩⟩
 ·simp only[aE.view]at hc⊢
  split at hc
  ·rename_i hs;have hne:a.block≠E.ρ id:=by intro e;rw[e,hk]at hs;simp[rZ.stable]at hs
   simp only[aE.setObj,hs,if_true];rw[cell?_congr (ht.other _ hne)];exact hc
  ·cases hc
 ·obtain⟨o,a1,a2⟩:=hb
  by_cases e:x=id
  ·exact⟨.obj k,by simp only[aE.setObj,aK hlen,if_pos e],z6⟩
  ·exact⟨o,by simp only[aE.setObj,aK hlen,if_neg e];exact a1,a2⟩
 ·by_cases e:x=id
  ·simp only[aE.view,aE.setObj,aK hlen,if_pos e]at hx;cases hx
  ·simp only[aE.view,aE.setObj,aK hlen,if_neg e]at hx⊢;exact hx
theorem aE.setObj_le:E.le (E.setObj id w' k):=by
 have hlen:=lG hi;refine⟨ht.os,ht.tape,ht.output,by show _<=w'.heap.size;rw[ht.size];exact aSl _,λb hb hn=>⟨rfl,ht.other _ λe=>hn (.inr (.inr ⟨id,k0,hi,e.symm⟩))⟩,aE.setObj_view h hi ht k,λb hb=>Or.imp ?_ (Or.imp ?_ ?_)⟩
 ·rintro⟨x,cs',a1,a2⟩;simp only[aE.setObj,aK hlen]at a1 a2
  split at a1
  ·cases a1
  ·exact⟨x,cs',a1,a2⟩
 ·rintro⟨x,n,sz,a1,a2⟩;simp only[aE.setObj,aK hlen]at a1 a2
  split at a1
  ·cases a1
  ·exact⟨x,n,sz,a1,a2⟩
 ·rintro⟨x,k',a1,a2⟩;simp only[aE.setObj,aK hlen]at a1 a2
  split at a1
  ·rename_i e;exact⟨id,k0,hi,by rw[<-e];exact a2⟩
  ·exact⟨x,k',a1,a2⟩
theorem aE.Ok.setObj(hr:∃o,w'.heap[E.ρ id]? =some o/\OR E.view k o):(E.setObj id w' k).Ok:=by
 have hlen:=lG hi;have hle:=aE.setObj_view h hi ht k;obtain⟨⟨o0,h1,h2⟩,h3⟩:=h.objs.at_ id k0 hi;refine⟨?_, ?_, ?_, ?_,h.globs_of hle.cell (by intro x b vs hx;simp only[aE.setObj,aK hlen]at hx;split at hx<;>first|exact hx|cases hx), ?_, ?_⟩
 ·intro x cs' hx;simp only[aE.setObj,aK hlen]at hx
  split at hx
  ·cases hx
  ·obtain⟨arr',elem',b1,b2,b3,b4⟩:=h.rows x cs' hx;have hne:E.ρ x≠E.ρ id:=λq=>by rw[q,h1]at b1;cases b1;exact h2.cells
   exact⟨arr',elem',by rw[<-b1];exact ht.other _ hne,b2,λi hl=>(b3 i hl).mono hle,b4⟩
 ·intro x n sz b hx hb;simp only[aE.setObj,aK hlen]at hx hb
  split at hx
  ·cases hx
  ·obtain⟨arr',elem',pos,b1,b2⟩:=h.bufs x n sz b hx hb;have hne:b≠E.ρ id:=by intro q;rw[q,h3]at b2;cases b2
   exact⟨arr',elem',pos,by rw[<-b1];exact ht.other _ hne,b2⟩
 ·intro x x' c c' a1 a2 e;simp only[aE.setObj,aK hlen]at a1 a2 e
  split at a1<;>split at a2
  ·cases a1
  ·cases a1
  ·cases a2
  ·exact h.injr x x' c c' a1 a2 e
 ·intro x x' n sz n' sz' b a1 a2 e e';simp only[aE.setObj,aK hlen]at a1 a2 e e'
  split at a1<;>split at a2
  ·cases a1
  ·cases a1
  ·cases a2
  ·exact h.injb x x' n sz n' sz' b a1 a2 e e'
 ·intro x k' hx;simp only[aE.setObj,aK hlen]at hx
  split at hx
  ·rename_i e;cases hx;subst e;obtain⟨o,b1,b2⟩:=hr;exact⟨⟨o,b1,b2.mono hle⟩,h3⟩
  ·rename_i e;obtain⟨⟨o,b1,b2⟩,b3⟩:=h.objs.at_ x k' hx;have hne:E.ρ x≠E.ρ id:=λq=>e (h.objs.inj x id k' k0 hx hi q);exact⟨⟨o,by rw[<-b1];exact ht.other _ hne,b2.mono hle⟩,b3⟩
 ·intro x x' c c' a1 a2 e;simp only[aE.setObj,aK hlen]at a1 a2 e;have fix:∀y d,(if y=id then some (AObj.obj k)else E.H[y]?)=some (.obj d)->∃d',E.H[y]? =some (.obj d'):=by
   intro y d q
   split at q
   ·rename_i e;subst e;exact⟨k0,hi⟩
   ·exact⟨d,q⟩
  obtain⟨d,hd⟩:=fix _ _ a1;obtain⟨d',hd'⟩:=fix _ _ a2;exact h.objs.inj x x' d d' hd hd' e
end setObj
section
variable{P:Program}
theorem HG{t e:TypeId}(h:aB1 P t=some e):∃k,P.underlying t=some (.map k e)/\P.underlying k=some (.int .i64):=by
 unfold aB1 at h
 split at h
 ·rename_i k e' hu
  split at h
  ·rename_i hk;cases h;exact⟨k,hu,hk⟩
  ·cases h
 ·cases h
theorem NE:∀(es:List (Int×PV)) (n:Int) (j i:Nat) (v:PV),tZ es n j=some (i,v)->j<=i/\i<j+es.length
 | [],n,j,i,v,h=>by cases h
 |e::es,n,j,i,v,h=>by
  simp only[tZ]at h
  split at h
  ·cases h;simp
  ·have:=NE es n (j+1) i v h;simp only[aS2];omega
theorem tI{V:cS}:∀(ms:List MapEntry) (es:List (Int×PV)) (n:Int) (j:Nat),mF V ms es->
  (tZ es n j=none/\Instr.findNow (.int .i64) (.int .i64 n) ms j=some none)\/∃i v p,tZ es n j=some (i,p)/\Instr.findNow (.int .i64) (.int .i64 n) ms j=some (some (i,v))/\aL V v p
 | [],[],n,j,_=>.inl ⟨rfl,rfl⟩
 |m::ms,e::es,n,j,h=>by
  obtain⟨h1,h2,h3⟩:=h;simp only[tZ,Instr.findNow,h1,Instr.sameNow,if_true]
  by_cases hn:e.1=n
  ·right;subst hn;refine⟨j,m.val,e.2,by rw[if_pos rfl], ?_,h2⟩;simp
  ·have e1:(n==e.1)=false:=by simpa using λq=>hn q.symm
   rw[if_neg hn,e1];exact tI ms es n (j+1) h3
 | [],_::_,n,j,h=>h.elim
 |_::_,[],n,j,h=>h.elim
theorem oS{k:TypeId}(hk:P.underlying k=some (.int .i64))(b:Bool)(n:Int)(w:World):(Instr.checkKey b 10000 k (.int .i64 n)).run P w= .ok () w:=by
 rw[show(10000:Nat)=Nat.succ 9999 from rfl,Instr.checkKey.eq_2];simp only[aS4,aS hk,aS5,aS7]
theorem tD{w:World}{b:Nat}{ms:Array MapEntry}{c:Nat}(h:w.heap[b]? =some (.map ms c)):(getObj b).run P w= .ok (.map ms c) w:=by
 simp[getObj,Sem.run,h]
theorem DV{w:World}{b:Nat}{ms:Array MapEntry}{c:Nat}{o':Obj}(h:w.heap[b]? =some (.map ms c)):(setObj b o').run P w= .ok () {w with heap:=w.heap.setIfInBounds b o'}:=by
 simp[setObj,Sem.run,h]
theorem mF.set{V:cS}{n:Int}{v:Value}{p:PV}(hv:aL V v p):∀ {ms:List MapEntry} {es:List (Int×PV)} (i:Nat),mF V ms es->mF V (ms.modify i λ(e:MapEntry)=> {e with key:=.int .i64 n,val:=v}) (es.set i (n,p))
 | [],[],i,_=>by simp[mF]
 |m::ms,e::es,0,h=>⟨rfl,hv,h.2.2⟩
 |m::ms,e::es,i+1,h=>⟨h.1,h.2.1,mF.set hv i h.2.2⟩
 | [],_::_,i,h=>h.elim
 |_::_,[],i,h=>h.elim
theorem mF.app{V:cS}{n:Int}{v:Value}{p:PV}{c:Nat}(hv:aL V v p):∀ {ms:List MapEntry} {es:List (Int×PV)},mF V ms es->mF V (ms++ [{key:=.int .i64 n,val:=v,born:=c}]) (es++ [(n,p)])
 | [],[],_=>⟨rfl,hv,trivial⟩
 |m::ms,e::es,h=>⟨h.1,h.2.1,mF.app hv h.2.2⟩
 | [],_::_,h=>h.elim
 |_::_,[],h=>h.elim
theorem HE:∀(es:List (Int×PV)) (n:Int) (j i:Nat) (v:PV),tZ es n j=some (i,v)->es[i-j]? =some (n,v)
 | [],n,j,i,v,h=>by cases h
 |e::es,n,j,i,v,h=>by
  simp only[tZ]at h
  split at h
  ·rename_i he;cases h;subst he;simp
  ·have h1:=NE es n (j+1) i v h;have:=HE es n (j+1) i v h;rw[show i-j=(i- (j+1))+1 by omega,aS3];exact this
theorem DQ:∀(es:List (Int×PV)) (n:Int) (j:Nat),tZ es n j=none->n∉es.map (·.1)
 | [],n,j,h=>z6
 |e::es,n,j,h=>by
  simp only[tZ]at h
  split at h
  ·cases h
  ·rename_i he;have:=DQ es n (j+1) h;simp only[aTg,aTv,not_or];exact⟨λq=>he q.symm,this⟩
theorem NZ(es:List (Int×PV))(i:Nat)(n:Int)(p q:PV)(h:es[i]? =some (n,q)):(es.set i (n,p)).map (·.1)=es.map (·.1):=by
 apply List.ext_getElem?;intro j;rw[aTb,aTb]
 by_cases e:i=j
 ·subst e;have hl:i<es.length:=(List.getElem?_eq_some_iff.1 h).1;rw[aSz hl,h];rfl
 ·rw[aS0 e]
theorem BZ(ms:List MapEntry)(i:Nat)(f:MapEntry->MapEntry)(hf:∀e,(f e).born=e.born):(ms.modify i f).map (·.born)=ms.map (·.born):=by
 apply List.ext_getElem?;intro j;rw[aTb,aTb,List.getElem?_modify];cases ms[j]? with
 |none=>rfl
 |some m=>by_cases e:i=j<;>simp[e,hf]
variable{E:aE}{N:Nat}{a:Act}{T:Nat->PV}(ho:E.Ok)
include ho
theorem KA{t:TypeId}{xv kv:Value}{x k p:PV}{ok:Bool}(hx:aL E.view xv x)(hk:aL E.view kv k)(h:lC P E.H t x k ok=some p):∃val,(Instr.lookup t xv kv ok).run P E.w= .ok val E.w/\aL E.view val p:=by
 unfold lC at h
 split at h
 ·rename_i id n
  split at h
  ·rename_i es hid;obtain⟨e,he,h⟩:=oB h;obtain⟨z,hz,h⟩:=oB h;cases h;obtain⟨kt,ht,hkt⟩:=HG he;obtain⟨f',zv,h5,h6,rfl⟩:=eQ hz;obtain⟨⟨o,b1,b2⟩,_⟩:=ho.objs.at_ id _ hid;obtain⟨ms,c,rfl,hm,_,_,_⟩:=b2;have hx':xv= .map (some (E.ρ id)):=by cases hx;rfl
   have hk':kv= .int .i64 n:=by cases hk;rfl
   subst hx' hk';have hf:=tI ms es n 0 hm;unfold aPe;rcases hf with⟨f1,f2⟩| ⟨i,v,q,f1,f2,f3⟩
   ·refine⟨if ok then .tuple #[zv, .bool false]else zv, ?_, ?_⟩
    ·simp only[Instr.lookup,aS4,aS ht,aS hkt,tD b1,oS hkt,Instr.findKey,aS5,aS7,List.toList_toArray,f2,jH h5 h6]
    ·rw[f1];simp only[aTl,EX];have hz:=dR E.view zv;cases ok
     ·exact hz
     ·refine .tup _ _ rfl λi hi=> ?_
      match i,hi with
      |0,_=>exact hz
      |1,_=>exact .bool _
   ·refine⟨if ok then .tuple #[v, .bool true]else v, ?_, ?_⟩
    ·simp only[Instr.lookup,aS4,aS ht,aS hkt,tD b1,oS hkt,Instr.findKey,aS5,aS7,List.toList_toArray,f2]
    ·rw[f1];simp only[aS1,EX];cases ok
     ·exact f3
     ·refine .tup _ _ rfl λi hi=> ?_
      match i,hi with
      |0,_=>exact f3
      |1,_=>exact .bool _
  ·cases h
 ·cases h
theorem KK{t:TypeId}{xv kv vv:Value}{x k v:PV}{e:Nat×AObj}(hx:aL E.view xv x)(hk:aL E.view kv k)(hv:aL E.view vv v)(h:mH P E.H t x k v=some e):
  ∃E',(Instr.mapUpdate t xv kv vv).run P E.w= .ok () E'.w/\E.le E'/\E'.Ok/\E'.H=E.H.set e.1 e.2:=by
 unfold mH at h
 split at h
 ·rename_i id n
  split at h
  ·rename_i es hid
   split at h
   ·rename_i hs;cases h;obtain⟨et,he⟩:=Option.isSome_iff_exists.1 hs;obtain⟨kt,ht,hkt⟩:=HG he;obtain⟨⟨o,b1,b2⟩,_⟩:=ho.objs.at_ id _ hid;obtain⟨ms,c,rfl,hm,hb,hn,hkn⟩:=b2;have hx':xv= .map (some (E.ρ id)):=by cases hx;rfl
    have hk':kv= .int .i64 n:=by cases hk;rfl
    subst hx' hk';have hlt:=ho.objs.lt hid;have hd:=hv.drop1;have turned:∀o',World.Turned E.w {E.w with heap:=E.w.heap.setIfInBounds (E.ρ id) o'} (E.ρ id):=λo'=>
     ⟨rfl,rfl,rfl,z6,λy hy=>by simp[Ne.symm hy]⟩
    have at_:∀o',({E.w with heap:=E.w.heap.setIfInBounds (E.ρ id) o'}:World).heap[E.ρ id]? =some o':=λo'=>by simp[hlt]
    rcases tI ms es n 0 hm with⟨f1,f2⟩| ⟨i,v0,q,f1,f2,f3⟩
    ·have hms:aCt es n v.drop1=es++ [(n,v.drop1)]:=by unfold aCt;rw[f1]
     rw[hms];have hor:OR E.view (.mapo (es++ [(n,v.drop1)])) (.map (ms++ [({key:=.int .i64 n,val:=vv,born:=c}:MapEntry)]).toArray (c+1)):=by
      refine⟨_,_,rfl,mF.app hd hm,by simp[hb], ?_, ?_⟩
      ·rw[List.map_append,hn,aTi,aSi,List.range_succ,hb];rfl
      ·rw[List.map_append,List.nodup_append];refine⟨hkn,z6, ?_⟩;intro x hx y hy;simp at hy;subst hy;rintro rfl;exact DQ _ _ _ f1 hx
     refine⟨E.setObj id {E.w with heap:=E.w.heap.setIfInBounds (E.ρ id) (.map (ms++ [({key:=.int .i64 n,val:=vv,born:=c}:MapEntry)]).toArray (c+1))} (.mapo (es++ [(n,v.drop1)])), ?_,aE.setObj_le ho hid (turned _) _,ho.setObj hid (turned _) _ ⟨_,at_ _,hor⟩,rfl⟩;simp only[Instr.mapUpdate,aS4,aS ht,aS hkt,tD b1,oS hkt,Instr.findKey,aS5,aS7,List.toList_toArray,f2,DV b1,List.push_toArray];rfl
    ·have hms:aCt es n v.drop1=es.set i (n,v.drop1):=by unfold aCt;rw[f1]
     rw[hms];have hkey:=HE es n 0 i q f1;rw[Nat.sub_zero]at hkey;have hor:OR E.view (.mapo (es.set i (n,v.drop1))) (.map (ms.modify i λ(e:MapEntry)=> {e with key:=.int .i64 n,val:=vv}).toArray c):=by
      refine⟨_,_,rfl,mF.set hd i hm,by rw[List.length_modify];exact hb, ?_, ?_⟩
      ·rw[BZ ms i (λ(e:MapEntry)=> {e with key:=.int .i64 n,val:=vv}) (λ_=>rfl),List.length_modify];exact hn
      ·rw[NZ es i n _ q hkey];exact hkn
     have hkold:((ms.toArray[i]?).map (·.key)).getD (.int .i64 n)= .int .i64 n:=by
      have:∀(ms:List MapEntry) (es:List (Int×PV)) (i:Nat),mF E.view ms es->es[i]? =some (n,q)->(ms[i]?).map (·.key)=some (.int .i64 n):=by
       intro ms
       induction ms with
       |nil=>intro es i h h2;cases es with|nil=>cases h2|cons _ _=>exact h.elim
       |cons m ms ih=>
        intro es i h h2;cases es with
        |nil=>exact h.elim
        |cons e es=>
         cases i with
         |zero=>simp only[aTo,Option.some.injEq]at h2;simp[h.1,h2]
         |succ i=>exact ih es i h.2.2 h2
      have:=this ms es i hm hkey;rw[aTa,this];rfl
     refine⟨E.setObj id {E.w with heap:=E.w.heap.setIfInBounds (E.ρ id) (.map (ms.modify i λ(e:MapEntry)=> {e with key:=.int .i64 n,val:=vv}).toArray c)} (.mapo (es.set i (n,v.drop1))), ?_,aE.setObj_le ho hid (turned _) _,ho.setObj hid (turned _) _ ⟨_,at_ _,hor⟩,rfl⟩;have hsame:Instr.sameBits 10000 (.int .i64 n) (.int .i64 n)=true:=by
      show Instr.sameBits (9999+1) _ _=true;simp[Instr.sameBits]
     simp only[Instr.mapUpdate,aS4,aS ht,aS hkt,tD b1,oS hkt,Instr.findKey,aS5,aS7,List.toList_toArray,f2,hkold,Instr.keyThatStays,hsame,if_true,DV b1,List.modify_toArray];rfl
   ·cases h
  ·cases h
 ·cases h
end
def cK(N:Nat)(o:Op):Bool:=o.operands.toList.all (aQ N)
theorem DL{V:cS}{N:Nat}{a:Act}{T:Nat->PV}(ht:eR V N a T)(xs:Array Operand)(h:xs.toList.all (aQ N)=true):
  RL V (xs.map a.eval) (xs.toList.map λx=>(bT T x).drop1):=by
 refine⟨z6,λi hi=> ?_⟩;simp only[aSr,aSs]at hi;simp only[aSh,Array.getElem_toList];rw[aSo,Array.getElem?_map,aSt hi];simp only[aS1,aSu];exact(aM ht _ (aTr.1 h _ z6)).drop1
theorem fT.of{P:Program}{E:aE}{s:Sem Value}{v:PV}{e:qD}(h:∃E' val,s.run P E.w= .ok val E'.w/\E.le E'/\E'.Ok/\E'.H=e.app E.H/\aL E'.view val v):
  fT P E (do pure (.value (<-s))) v e:=by
 obtain⟨E',val,h1,h2⟩:=h;exact⟨E',val, .inl (by simp only[aS4,h1,aS5,aS7]),h2⟩
theorem fT.same{P:Program}{E:aE}(ho:E.Ok){s:Sem Value}{v:PV}(h:∃val,s.run P E.w= .ok val E.w/\aL E.view val v):
  fT P E (do pure (.value (<-s))) v none:=by
 obtain⟨val,h1,h2⟩:=h;exact fT.of ⟨E,val,h1, .refl E,ho,rfl,h2⟩
theorem bind_some{α β:Type}{x:Option α}{f:α->Option β}{b:β}(h:x.bind f=some b):∃a,x=some a/\f a=some b:=by
 cases x with
 |none=>cases h
 |some a=>exact⟨a,rfl,h⟩
theorem mD{P:Program}{t:TypeId}(h:(dH P t).isSome=true):∃e,P.underlying t=some (.slice e):=by
 cases hq:dH P t with
 |none=>rw[hq]at h;cases h
 |some q=>obtain⟨e,i⟩:=q;exact⟨e,(dE hq).1⟩
section
variable{P:Program}{E:aE}{N:Nat}{a:Act}{T:Nat->PV}(ho:E.Ok)(ht:eR E.view N a T)
include ho ht
omit ho ht in
theorem fL{b:Builtin}{xs:List Operand}{ts:List TypeId}{c:Call}{ty:TypeId}(h1:c.callee= .builtin b)(h2:c.args.toList=xs)(h3:c.argTypes.toList=ts){s:Sem Value}(hs:builtin b ts.toArray ty (c.args.map fun| .const _=>true|_=>false) (xs.map a.eval).toArray=(do pure (.value (<-s)):Sem Next)):
  (do let d<-resolve a.eval c ty;invoke d.target d.args:Sem Next).run P E.w=(do pure (.value (<-s)):Sem Next).run P E.w:=by
 obtain⟨ca,ar,at_⟩:=c;simp only at h1 h2 h3 hs;subst h1;subst h2;subst h3;simp only[resolve,aS4,aS7,aS5,invoke];have e1:at_.toList.toArray=at_:=z6
 have e2:(List.map a.eval ar.toList).toArray=ar.map a.eval:=by rw[<-Array.toList_map]
 rw[e1,e2]at hs;exact(congrArg (λq:Sem Next=>q.run P E.w) hs).trans (by simp only[aS4,aS7])
omit ho ht in
theorem fT.congr{s s':Sem Next}(h:s.run P E.w=s'.run P E.w){v:PV}{e:qD}(d:fT P E s' v e):fT P E s v e:=by
 obtain⟨E',val,h1,h2⟩:=d;exact⟨E',val,by rw[h];exact h1,h2⟩
theorem FY{c:Call}{b:Builtin}(hc:c.callee= .builtin b)(hall:∀x∈c.args.toList,aQ N x=true){ty:TypeId}{fresh:Nat}{v:PV}{eff:qD}(hv:dX P fresh T E.H b c.args.toList c.argTypes.toList=some (v,eff))
  (hfr:∀ob,eff=some (fresh,ob)->E.H[fresh]? =some .unborn):fT P E (do let d<-resolve a.eval c ty;invoke d.target d.args) v eff:=by
 generalize hxs:c.args.toList=xs at hv hall;generalize hts:c.argTypes.toList=ts at hv;unfold dX at hv
 split at hv
 ·
  rename_i x t;have hr:=aM ht x (hall _ z6);refine fT.congr (fL hc hxs hts (s:=Builtin.len_ #[t] ty #[a.eval x]) rfl) ?_
  split at hv
  ·rename_i es tl hx;rw[hx]at hr
   split at hv
   ·rename_i hs;obtain⟨e,hu⟩:=mD hs;cases hv;obtain⟨ad,cap,hval⟩:∃ad cap,a.eval x= .slice ad es.length cap:=by
     generalize a.eval x=y at hr;cases hr with
     |nils _ _=>exact⟨none,0,rfl⟩
     |slice ad len cap sz _ _ vs hlen hcap hmax hsz hc hr ht=>subst hlen;exact⟨some ad,cap,rfl⟩
    refine fT.same ho ⟨.int .i64 es.length, ?_, .int _ _⟩;simp only[aS4,aS7,aS5,Builtin.len_,aTa,aTo,aS hu,hval,goInt]
   ·cases hv
  ·rename_i id off n c hx;rw[hx]at hr
   split at hv
   ·rename_i hs;obtain⟨e,hu⟩:=mD hs;cases hv;obtain⟨ad,cap,hval⟩:∃ad cap,a.eval x= .slice ad n cap:=by
     generalize a.eval x=y at hr;cases hr;exact⟨_,_,rfl⟩
    refine fT.same ho ⟨.int .i64 n, ?_, .int _ _⟩;simp only[aS4,aS7,aS5,Builtin.len_,aTa,aTo,aS hu,hval,goInt]
   ·cases hv
  ·rename_i s hx;rw[hx]at hr
   split at hv
   ·rename_i hs;unfold MX at hs
    split at hs
    ·rename_i hu;cases hv;obtain⟨s',hval,rfl⟩:∃s',a.eval x= .string s'/\s=s'.data.toList:=by
      generalize a.eval x=y at hr;cases hr;exact⟨_,rfl,rfl⟩
     refine fT.same ho ⟨.int .i64 s'.data.toList.length, ?_, .int _ _⟩;simp only[aS4,aS7,aS5,Builtin.len_,aTa,aTo,aS hu,hval,goInt,aSs];rfl
    ·cases hs
   ·cases hv
  ·cases hv
 ·
  rename_i x y;refine fT.congr (fL hc hxs hts (s:=Builtin.min_ _ ty #[a.eval x,a.eval y]) rfl) ?_
  split at hv
  ·rename_i m n hx hy;cases hv;have hr:=aM ht x (hall _ z6);have hr':=aM ht y (hall _ z6);rw[hx]at hr;rw[hy]at hr';refine fT.same ho ⟨.int .i64 (min m n), ?_, .int _ _⟩;simp only[aS7,Builtin.min_,hr.int_inv,hr'.int_inv,List.foldlM_cons,List.foldlM_nil,Builtin.min2,pure_bind];congr 2;rw[Int.min_def];split<;>split<;>omega
  ·cases hv
 ·
  rename_i x y;refine fT.congr (fL hc hxs hts (s:=Builtin.max_ _ ty #[a.eval x,a.eval y]) rfl) ?_
  split at hv
  ·rename_i m n hx hy;cases hv;have hr:=aM ht x (hall _ z6);have hr':=aM ht y (hall _ z6);rw[hx]at hr;rw[hy]at hr';refine fT.same ho ⟨.int .i64 (max m n), ?_, .int _ _⟩;simp only[aS7,Builtin.max_,hr.int_inv,hr'.int_inv,List.foldlM_cons,List.foldlM_nil,Builtin.max2,pure_bind];congr 2;rw[Int.max_def];split<;>split<;>omega
  ·cases hv
 ·
  rename_i x y t u;obtain⟨ei,hf,hv⟩:=bind_some hv;obtain⟨z,hz,hv⟩:=bind_some hv;refine fT.congr (fL hc hxs hts (s:=Builtin.append_ #[t,u] ty #[a.eval x,a.eval y]) rfl) ?_
  split at hv
  ·rename_i hcc;have hr:=aM ht x (hall _ z6);have hr':=aM ht y (hall _ z6);exact fT.of (KS (ty:=ty) ho hr hr' hf hz hcc.1 hcc.2 hv (λob h _ _=>hfr ob h))
  ·cases hv
 ·cases hv
theorem sN{o:Oper}(hok:cK N o.op=true){mt:Bool}{fresh:Nat}{v:PV}{eff:qD}(hv:eU P mt fresh T E.H o.op=some (v,eff))(hfr:∀ob,eff=some (fresh,ob)->E.H[fresh]? =some .unborn):
  fT P E (execOp a.eval o) v eff:=by
 have hall:∀x∈o.op.operands.toList,aQ N x=true:=λx hx=>aTr.1 hok x hx;unfold execOp;generalize hop:o.op=op at hv hall;unfold eU at hv
 split at hv
 ·
  cases hv;exact fT.val ho rfl (aM ht _ (hall _ (by simp[Op.operands])))
 ·cases hv;exact fT.val ho rfl (aM ht _ (hall _ (by simp[Op.operands])))
 ·
  rename_i c x y
  split at hv
  ·rename_i b hb;cases hv;have hc:=aM ht c (hall _ (by simp[Op.operands]));rw[hb]at hc;have hc':=hc.bool_inv;refine fT.val ho (val:=if b then a.eval x else a.eval y) ?_ ?_
   ·simp only[aS4,hc',asBool,aS7,aS5]
   ·cases b
    ·exact aM ht y (hall _ (by simp[Op.operands]))
    ·exact aM ht x (hall _ (by simp[Op.operands]))
  ·cases hv
 ·
  rename_i e;obtain⟨z,hz,hv⟩:=bind_some hv
  split at hv
  ·cases hv
  ·rename_i hj;cases hv;exact fT.of (LC ho (hfr _ rfl) hz (by simpa using hj))
 ·
  rename_i e x
  split at hv
  ·cases hv
  ·rename_i hj;cases hv;exact fT.of (UQ ho ht (hfr _ rfl) (hall _ (by simp[Op.operands])) (by simpa using hj))
 ·
  rename_i t ps;obtain⟨fl,hf,hv⟩:=bind_some hv;obtain⟨z,hz,hv⟩:=bind_some hv
  split at hv
  ·cases hv
  ·rename_i hj;obtain⟨cs,hb,hv⟩:=bind_some hv;cases hv;exact fT.same ho (NX ht (aTr.2 λx hx=>hall _ (by simp only[Op.operands];exact aTq.2 ⟨x,hx,rfl⟩)) hf hz (by simpa using hj) hb)
 ·
  rename_i t n ps;obtain⟨ei,hf,hv⟩:=bind_some hv;obtain⟨z,hz,hv⟩:=bind_some hv
  split at hv
  ·rename_i hc;obtain⟨es,hb,hv⟩:=bind_some hv;cases hv;exact fT.of (zW ht ho (aTr.2 λx hx=>hall _ (by simp only[Op.operands];exact aTq.2 ⟨x,hx,rfl⟩)) hf hz hc.1 hc.2.1 hc.2.2 hb)
  ·cases hv
 ·
  rename_i t x;obtain⟨i,hi,hv⟩:=bind_some hv;obtain⟨p,hp,hv⟩:=bind_some hv;cases hv;exact fT.same ho (CV ho ht (hall _ (by simp[Op.operands])) hi hp)
 ·
  rename_i t x y;obtain⟨i,hi,hv⟩:=bind_some hv;obtain⟨e,he,hv⟩:=bind_some hv;cases hv;obtain⟨E',h1,h2,h3,h4⟩:=LL ho ht (hall x (by simp[Op.operands])) (hall y (by simp[Op.operands])) hi he;exact⟨E',undef, .inr ⟨by simp only[aS4,h1,aS5,aS7],rfl⟩,h2,h3,h4, .junk _⟩
 ·
  rename_i x
  split at hv
  ·rename_i id off hx;cases hv;have hr:=aM ht x (hall _ (by simp[Op.operands]));rw[hx]at hr;have hi:=hr.optr_inv;refine fT.val ho (val:=a.eval x) ?_ hr;simp only[hi.1];rfl
  ·rename_i cs hx;cases hv;have hr:=aM ht x (hall _ (by simp[Op.operands]));rw[hx]at hr;obtain⟨ad,vs,e,_,_⟩:=hr.iptr_inv;refine fT.val ho (val:=a.eval x) ?_ hr;simp only[e];rfl
  ·cases hv
 ·
  rename_i op xt x y yt;obtain⟨p,hp,hv⟩:=bind_some hv;cases hv;exact fT.same ho (WH (aM ht _ (hall x (by simp[Op.operands]))) (aM ht _ (hall y (by simp[Op.operands]))) hp)
 ·
  obtain⟨p,hp,hv⟩:=bind_some hv;cases hv;exact fT.same ho (YX (aM ht _ (hall _ (by simp[Op.operands]))) hp)
 ·
  rename_i s d x
  split at hv
  ·rename_i k0 n k hx hk
   split at hv
   ·rename_i hs;cases hv;have hr:=aM ht x (hall _ (by simp[Op.operands]));rw[hx]at hr;refine fT.same ho (FQ hr hk ?_);unfold GN at hs;cases hq:P.underlying s with
    |none=>rw[hq]at hs;cases hs
    |some _=>rfl
   ·cases hv
  ·cases hv
 ·
  rename_i f first caps
  cases hv;have h1:=DL ht first (aTr.2 λx hx=>hall _ (by simp only[Op.operands];simp;left;simpa using hx))
  have h2:=DL ht caps (aTr.2 λx hx=>hall _ (by simp only[Op.operands];simp;right;simpa using hx));exact fT.val ho rfl (.fn _ _ _ _ _ h1.1 h2.1 h1.2 h2.2)
 ·
  rename_i t l c;obtain⟨ei,hf,hv⟩:=bind_some hv;obtain⟨z,hz,hv⟩:=bind_some hv;exact fT.of (BY ho (aM ht _ (hall l (by simp[Op.operands]))) (aM ht _ (hall c (by simp[Op.operands]))) hf hz hv hfr)
 ·
  rename_i t x lo hi mx;obtain⟨p,hp,hv⟩:=bind_some hv;cases hv;refine fT.same ho (MO ht (hall x (by simp[Op.operands])) ?_ ?_ ?_ hp)
  ·cases lo with
   |none=>rfl
   |some y=>exact hall y (by simp[Op.operands])
  ·cases hi with
   |none=>rfl
   |some y=>exact hall y (by simp[Op.operands])
  ·cases mx with
   |none=>rfl
   |some y=>exact hall y (by simp[Op.operands])
 ·
  obtain⟨fl,hf,hv⟩:=bind_some hv;obtain⟨p,hp,hv⟩:=bind_some hv;cases hv;exact fT.same ho (BP ht (hall _ (by simp[Op.operands])) hf hp)
 ·obtain⟨fl,hf,hv⟩:=bind_some hv;obtain⟨p,hp,hv⟩:=bind_some hv;cases hv;exact fT.same ho (MJ ht (hall _ (by simp[Op.operands])) hf hp)
 ·
  rename_i t x i;obtain⟨ei,hf,hv⟩:=bind_some hv;obtain⟨p,hp,hv⟩:=bind_some hv;cases hv;exact fT.same ho (BW ht (hall x (by simp[Op.operands])) (hall i (by simp[Op.operands])) hf hp)
 ·
  rename_i t x i
  split at hv
  ·rename_i s hs
   split at hv
   ·rename_i hst;obtain⟨k,hk,hv⟩:=bind_some hv;obtain⟨b,hb,hv⟩:=bind_some hv;cases hv;exact fT.same ho ⟨_,KY ht (hall x (by simp[Op.operands])) (hall i (by simp[Op.operands])) hs hst hk hb, .int _ _⟩
   ·cases hv
  ·cases hv
 ·
  rename_i t i
  split at hv
  ·rename_i vs hx;obtain⟨p,hp,hv⟩:=bind_some hv;cases hv;exact fT.same ho (GO ht (hall _ (by simp[Op.operands])) hx hp)
  ·cases hv
 ·
  rename_i t x k ok;obtain⟨p,hp,hv⟩:=bind_some hv;cases hv;exact fT.same ho (KA ho (aM ht _ (hall x (by simp[Op.operands]))) (aM ht _ (hall k (by simp[Op.operands]))) hp)
 ·
  rename_i t x k y;obtain⟨e,he,hv⟩:=bind_some hv;cases hv;obtain⟨E',h1,h2,h3,h4⟩:=KK ho (aM ht _ (hall x (by simp[Op.operands]))) (aM ht _ (hall k (by simp[Op.operands]))) (aM ht _ (hall y (by simp[Op.operands]))) he;exact⟨E',undef, .inr ⟨by simp only[aS4,h1,aS5,aS7],rfl⟩,h2,h3,h4, .junk _⟩
 ·
  rename_i t;obtain⟨e,he,hv⟩:=bind_some hv;cases hv;have hun:=hfr _ rfl;have hor:OR E.view (.mapo []) (.map #[] 0):=⟨[],0,rfl,trivial,z6,z6,z6⟩;refine fT.of ⟨E.newObj fresh (.map #[] 0) (.mapo []), .map (some E.w.heap.size), ?_,aE.newObj_le ho hun _ _,ho.newObj hun _ _ hor,rfl, ?_⟩
  ·simp only[aTl,Instr.makeMap,aS4,run_newObj,aS5,aS7];rfl
  ·have:=aL.mapp (V:=(E.newObj fresh (.map #[] 0) (.mapo [])).view) fresh ⟨.obj (.mapo []),by simp only[aE.newObj];exact aSz (lG hun),z6⟩;have hρ:(E.newObj fresh (.map #[] 0) (.mapo [])).view.rho fresh=E.w.heap.size:=by simp[aE.view,aE.newObj]
   rw[hρ]at this;exact this
 ·
  rename_i c
  split at hv
  ·rename_i b hb;exact FY ho ht hb (λx hx=>hall _ (by simp only[Op.operands,Call.operands,hb];simpa using hx)) hv hfr
  ·cases hv
 ·cases hv
end
abbrev aD:=Nat->PV
abbrev aC:=List AObj
abbrev dG:=Exit->aD->aC->Prop
structure aE.leN(n:Nat)(E E':aE):Prop where
 os:E'.w.os=E.w.os
 tape:E'.w.tape=E.w.tape
 output:E'.w.output=E.w.output
 size:E.w.heap.size<=E'.w.heap.size
 other:∀b,b<E.w.heap.size->¬E.owns b->E'.κ b=E.κ b/\E'.w.heap[b]? =E.w.heap[b]?
 cell:∀a v,E.view.cell a=some v->E'.view.cell a=some v
 bornv:∀id,id<n->E.view.born id->E'.view.born id/\E'.view.rho id=E.view.rho id/\
  ∀t',E'.view.tok id=some t'->∃t,E.view.tok id=some t/\(t'=t\/t.n<t'.n)
 born:∀b,b<E.w.heap.size->E'.owns b->E.owns b
theorem aE.le.leN{E E':aE}(h:E.le E')(n:Nat):E.leN n E':=
 ⟨h.os,h.tape,h.output,h.size,h.other,h.view.cell,λid _ hb=>⟨h.view.born id hb,h.view.rho id hb,λt' ht=>h.view.tok id t' hb ht⟩,h.born⟩
theorem aE.leN.refl(n:Nat)(E:aE):E.leN n E:=(aE.le.refl E).leN n
theorem aE.leN.trans{n:Nat}{A B C:aE}(h:A.leN n B)(k:B.leN n C):A.leN n C:=
 ⟨k.os.trans h.os,k.tape.trans h.tape,k.output.trans h.output,aSm h.size k.size,
  λb hb h1=>by
  obtain⟨e1,e2⟩:=h.other b hb h1;obtain⟨e3,e4⟩:=k.other b (aSn hb h.size) (λx=>h1 (h.born b hb x));exact⟨e3.trans e1,e4.trans e2⟩,
  λa v x=>k.cell a v (h.cell a v x),
  λid hid hb=>by
  obtain⟨b1,b2,b3⟩:=h.bornv id hid hb;obtain⟨c1,c2,c3⟩:=k.bornv id hid b1;refine⟨c1,c2.trans b2,λt' ht=> ?_⟩;obtain⟨t,h1,h2⟩:=c3 t' ht;obtain⟨t0,h3,h4⟩:=b3 t h1;refine⟨t0,h3, ?_⟩;rcases h2 with rfl|h2
  ·exact h4
  ·rcases h4 with rfl|h4
   ·exact .inr h2
   ·exact .inr z8,
  λb hb x=>h.born b hb (k.born b (aSn hb h.size) x)⟩
theorem aE.leN.le{E E':aE}(h:E.leN E.H.length E'):E.le E':=by
 have hl:∀id,E.view.born id->id<E.H.length:=by
  rintro id ⟨o,h1,_⟩;exact lG h1
 exact⟨h.os,h.tape,h.output,h.size,h.other,⟨h.cell,λid hb=>(h.bornv id (hl id hb) hb).1,λid hb=>(h.bornv id (hl id hb) hb).2.1,λid t' hb ht=>(h.bornv id (hl id hb) hb).2.2 t' ht⟩,h.born⟩
def BR(N nb:Nat)(E:aE)(Q:dG):Exit->Act->World->Prop:=λe a' w'=>∃E' T',E'.w=w'/\E.leN nb E'/\E'.Ok/\eR E'.view N a' T'/\Q e T' E'.H
def eA(P:Program)(N nb:Nat)(c:Code)(Q:dG)(T:aD)(H:aC):Prop:=
 ∀(E:aE) (a:Act),E.Ok->E.H=H->eR E.view N a T->c.wp P (BR N nb E Q) a E.w
theorem eP{N nb:Nat}{E E1:aE}(h:E.leN nb E1){Q Q':dG}(hq:∀e T H,Q e T H->Q' e T H){e:Exit}{a:Act}{w:World}(hl:BR N nb E1 Q e a w):BR N nb E Q' e a w:=by
 obtain⟨E',T',h1,h2,h3,h4,h5⟩:=hl;exact⟨E',T',h1,h.trans h2,h3,h4,hq _ _ _ h5⟩
section rules
variable{P:Program}{N nb:Nat}{Q:dG}{T:aD}{H:aC}
theorem eA.mono{c:Code}{Q':dG}(h:eA P N nb c Q T H)(hq:∀e T H,Q e T H->Q' e T H):eA P N nb c Q' T H:=
 λE a ho hH ht=>wp_mono (h E a ho hH ht) λe a w hl=>eP (.refl nb E) hq hl
theorem wK(h:Q .normal T H):eA P N nb .skip Q T H:=λE a ho hH ht=>wp_skip ⟨E,T,rfl, .refl nb E,ho,ht,hH▸h⟩
theorem bD{id:Nat}(h:Q (.exit id) T H):eA P N nb (.exit id) Q T H:=λE a ho hH ht=>wp_exit ⟨E,T,rfl, .refl nb E,ho,ht,hH▸h⟩
theorem wT(h:Q .ret T H):eA P N nb .ret Q T H:=λE a ho hH ht=>wp_ret ⟨E,T,rfl, .refl nb E,ho,ht,hH▸h⟩
def aW(next:aD->aC->Prop)(Q:dG):dG
 | .normal,T,H=>next T H
 |e,T,H=>Q e T H
theorem wS{x y:Code}(h:eA P N nb x (aW (eA P N nb y Q) Q) T H):eA P N nb (.seq x y) Q T H:=by
 intro E a ho hH ht;refine wp_seq (wp_mono (h E a ho hH ht) ?_);intro e a' w' hl;obtain⟨E',T',rfl,h2,h3,h4,h5⟩:=hl;cases e with
 |normal=>
  exact wp_mono (h5 E' a' h3 rfl h4) λe a w hl=>eP h2 (λ_ _ _ q=>q) hl
 |_=>exact⟨E',T',rfl,h2,h3,h4,h5⟩
theorem wC{c:Operand}{x y:Code}{b:Bool}(hc:aQ N c=true)(hb:bT T c= .bool b)(h1:b=true->eA P N nb x Q T H)(h2:b=false->eA P N nb y Q T H):eA P N nb (.cond c x y) Q T H:=by
 intro E a ho hH ht;have hr:=aM ht c hc;rw[hb]at hr;exact wp_cond_split hr.bool_inv (λe=>h1 e E a ho hH ht) (λe=>h2 e E a ho hH ht)
theorem jJ{c:Operand}{x y:Code}(hc:aQ N c=true)(hb:bT T c= .bool true)(h1:eA P N nb x Q T H):eA P N nb (.cond c x y) Q T H:=
 wC hc hb (λ_=>h1) (λh=>by cases h)
theorem wF{c:Operand}{x y:Code}(hc:aQ N c=true)(hb:bT T c= .bool false)(h1:eA P N nb y Q T H):eA P N nb (.cond c x y) Q T H:=
 wC hc hb (λh=>by cases h) (λ_=>h1)
def aO(id:Nat)(Q:dG):dG
 | .exit id',T,H=>if id'=id then Q .normal T H else Q (.exit id') T H
 |e,T,H=>Q e T H
theorem fB{id:Nat}{c:Code}(h:eA P N nb c (aO id Q) T H):eA P N nb (.block id c) Q T H:=by
 intro E a ho hH ht;refine wp_block (wp_mono (h E a ho hH ht) ?_);intro e a' w' hl;obtain⟨E',T',rfl,h2,h3,h4,h5⟩:=hl;cases e with
 |exit id'=>
  simp only[aO]at h5;simp only[Exit.inBlock]
  split at h5
  ·rename_i e;rw[if_pos e];exact⟨E',T',rfl,h2,h3,h4,h5⟩
  ·rename_i e;rw[if_neg e];exact⟨E',T',rfl,h2,h3,h4,h5⟩
 |_=>exact⟨E',T',rfl,h2,h3,h4,h5⟩
theorem sK{p:Nat->Prop}(h:∃n,p n):∃n,p n/\∀m,p m->n<=m:=by
 obtain⟨n,hn⟩:=h
 induction n using Nat.strongRecOn with
 |_ n ih=>
  by_cases q:∃m,m<n/\p m
  ·obtain⟨m,hm,hp⟩:=q;exact ih m hm hp
  ·exact⟨n,hn,λm hm=>Nat.le_of_not_lt λhlt=>q ⟨m,hlt,hm⟩⟩
open Classical in
noncomputable def BN(p:Nat->Prop):Nat:=if h:∃n,p n then Classical.choose (sK h)else 0
theorem tG{p:Nat->Prop}(h:∃n,p n):p (BN p):=by unfold BN;rw[dif_pos h];exact(Classical.choose_spec (sK h)).1
theorem yP{p:Nat->Prop}{n:Nat}(h:p n):BN p<=n:=by unfold BN;rw[dif_pos ⟨n,h⟩];exact(Classical.choose_spec (sK ⟨n,h⟩)).2 n h
inductive aZ(n:Nat):PV->Prop
 |bool (b):aZ n (.bool b)
 |int (k i):aZ n (.int k i)
 |str (s):aZ n (.str s)
 |nilp:aZ n .nilp
 |optr (id off) (h:id<n):aZ n (.optr id off)
 |iptr (cs) (h:∀c∈cs,aZ n c):aZ n (.iptr cs)
 |slice (es tl) (h:∀e∈es,∀c∈e.cells,aZ n c) (ht:∀id,tl= .tok id->id<n):aZ n (.slice es tl)
 |msl (id off k c) (h:id<n):aZ n (.msl id off k c)
 |fn (f pf pc) (hf:∀c∈pf,aZ n c) (hc:∀c∈pc,aZ n c):aZ n (.fn f pf pc)
 |nilfn:aZ n .nilfn
 |agg (cs) (h:∀c∈cs,aZ n c):aZ n (.agg cs)
 |tup (cs) (h:∀c∈cs,aZ n c):aZ n (.tup cs)
 |mapp (id) (h:id<n):aZ n (.mapp id)
 |nilmap:aZ n .nilmap
 |ifc (o):aZ n (.ifc o)
 |junk:aZ n .junk
theorem aL.bel{V:cS}{v:Value}{p:PV}(h:aL V v p){n:Nat}(hn:∀id,V.born id->id<n):aZ n p:=by
 induction h with
 |bool b=>exact .bool b
 |int k i=>exact .int k i
 |str s=>exact .str _
 |nilp=>exact .nilp
 |optr id off hb=>exact .optr _ _ (hn _ hb)
 |iptr a cs vs hc hr ih=>exact .iptr _ λc hc=>by obtain⟨i,hi,rfl⟩:=List.getElem_of_mem hc;exact ih i hi
 |nils tl ht=>exact .slice _ _ z6 λid e=>by subst e;exact hn _ ht.1
 |slice a len cap sz es tl vs hlen hcap hmax hsz hc hr ht ih=>
  refine .slice _ _ (λe he c hc=> ?_) λid e=>by subst e;exact hn _ ht.1
  obtain⟨i,hi,rfl⟩:=List.getElem_of_mem he;obtain⟨j,hj,rfl⟩:=List.getElem_of_mem hc;exact ih i j hi hj
 |msl id off k c hb hm=>exact .msl _ _ _ _ (hn _ hb)
 |fn f first caps pf pc hf hc _ _ ih1 ih2=>
  exact .fn _ _ _ (λc hc=>by obtain⟨i,hi,rfl⟩:=List.getElem_of_mem hc;exact ih1 i hi) (λc hc=>by obtain⟨i,hi,rfl⟩:=List.getElem_of_mem hc;exact ih2 i hi)
 |nilfn=>exact .nilfn
 |agg arr cs hl _ ih=>exact .agg _ λc hc=>by obtain⟨i,hi,rfl⟩:=List.getElem_of_mem hc;exact ih i hi
 |tup arr cs hl _ ih=>exact .tup _ λc hc=>by obtain⟨i,hi,rfl⟩:=List.getElem_of_mem hc;exact ih i hi
 |mapp id hb=>exact .mapp _ (hn _ hb)
 |nilmap=>exact .nilmap
 |nili=>exact .ifc _
 |ifc t v=>exact .ifc _
 |junk v=>exact .junk
theorem aL.cut{V V':cS}{n:Nat}(hc:∀a v,V.cell a=some v->V'.cell a=some v)(hb:∀id,id<n->V.born id->V'.born id/\V'.rho id=V.rho id/\∀t,V'.tok id=some t->V.tok id=some t)
  {v:Value} {p:PV} (h:aL V v p) (hp:aZ n p):aL V' v p:=by
 have htl:∀ {tl a len cap},(∀id,tl= .tok id->id<n)->mV V tl a len cap->mV V' tl a len cap:=by
  intro tl a len cap h1 h2;cases tl with
  |none=>trivial
  |full=>exact h2
  |tok id=>
   obtain⟨h3,h4⟩:=h2;obtain⟨b1,b2,b3⟩:=hb id (h1 id rfl) h3;exact⟨b1,λt ht=>h4 t (b3 t ht)⟩
 induction h with
 |bool b=>exact .bool b
 |int k i=>exact .int k i
 |str s=>exact .str _
 |nilp=>exact .nilp
 |optr id off hbn=>
  cases hp with
  |optr _ _ hlt=>obtain⟨b1,b2,_⟩:=hb id hlt hbn;rw[<-b2];exact .optr _ _ b1
 |iptr a cs vs hcl hr ih=>
  cases hp with
  |iptr _ hq=>exact .iptr _ _ vs (λj hj=>hc _ _ (hcl j hj)) λj hj=>ih j hj (hq _ (aTk hj))
 |nils tl ht=>
  cases hp with
  |slice _ _ hq hq2=>exact .nils _ (htl hq2 ht)
 |slice a len cap sz es tl vs hlen hcap hmax hsz hcl hr ht ih=>
  cases hp with
  |slice _ _ hq hq2=>exact .slice _ _ _ _ _ _ vs hlen hcap hmax hsz (λi j hi hj=>hc _ _ (hcl i j hi hj)) (λi j hi hj=>ih i j hi hj (hq _ (aTk hi) _ (aTk hj))) (htl hq2 ht)
 |msl id off k c hbn hm=>
  cases hp with
  |msl _ _ _ _ hlt=>obtain⟨b1,b2,_⟩:=hb id hlt hbn;rw[<-b2];exact .msl _ _ _ _ b1 hm
 |fn f first caps pf pc hf hcp _ _ ih1 ih2=>
  cases hp with
  |fn _ _ _ q1 q2=>exact .fn _ _ _ _ _ hf hcp (λi h=>ih1 i h (q1 _ (aTk h))) (λi h=>ih2 i h (q2 _ (aTk h)))
 |nilfn=>exact .nilfn
 |agg arr cs hl _ ih=>
  cases hp with
  |agg _ q=>exact .agg _ _ hl λi h=>ih i h (q _ (aTk h))
 |tup arr cs hl _ ih=>
  cases hp with
  |tup _ q=>exact .tup _ _ hl λi h=>ih i h (q _ (aTk h))
 |mapp id hbn=>
  cases hp with
  |mapp _ hlt=>obtain⟨b1,b2,_⟩:=hb id hlt hbn;rw[<-b2];exact .mapp _ b1
 |nilmap=>exact .nilmap
 |nili=>exact .nili
 |ifc t v=>exact .ifc t v
 |junk v=>exact .junk v
theorem SK{H:aC}{id:Nat}(h:pV H id):id<H.length:=by
 obtain⟨o,h1,_⟩:=h;exact lG h1
theorem aZ.mono{n m:Nat}(hnm:n<=m){p:PV}(h:aZ n p):aZ m p:=by
 induction h with
 |bool b=>exact .bool b
 |int k i=>exact .int k i
 |str s=>exact .str _
 |nilp=>exact .nilp
 |optr id off h=>exact .optr _ _ z8
 |iptr cs _ ih=>exact .iptr _ ih
 |slice es tl _ ht ih=>exact .slice _ _ ih λid e=>by have:=ht id e;omega
 |msl id off k c h=>exact .msl _ _ _ _ z8
 |fn f pf pc _ _ ih1 ih2=>exact .fn _ _ _ ih1 ih2
 |nilfn=>exact .nilfn
 |agg cs _ ih=>exact .agg _ ih
 |tup cs _ ih=>exact .tup _ ih
 |mapp id h=>exact .mapp _ z8
 |nilmap=>exact .nilmap
 |ifc o=>exact .ifc o
 |junk=>exact .junk
def GH(n:Nat):AObj->Prop
 | .row cs=>∀c∈cs,aZ n c
 | .obj (.mapo es)=>∀e∈es,aZ n e.2
 | .obj (.miter im _ _)=>im<n
 |_=>True
theorem GH.mono{n m:Nat}{o:AObj}(h:GH m o)(hm:m<=n):GH n o:=by
 cases o with
 |row cs=>exact λc hc=>(h c hc).mono hm
 |obj k=>cases k with
  |iter s p=>trivial
  |mapo es=>exact λe he=>(h e he).mono hm
  |miter im k seen=>exact aSn h hm
 |_=>trivial
theorem mF.bel{V:cS}{n:Nat}(hn:∀id,V.born id->id<n):∀ {ms:List MapEntry} {es:List (Int×PV)},mF V ms es->∀e∈es,aZ n e.2
 | [],[],_,e,he=>by cases he
 |m::ms,x::es,h,e,he=>by
  rcases aTv.1 he with rfl|he
  ·exact h.2.1.bel hn
  ·exact mF.bel hn h.2.2 e he
 | [],_::_,h,_,_=>h.elim
 |_::_,[],h,_,_=>h.elim
theorem OR.bel{V:cS}{k:sA}{o:Obj}(h:OR V k o){n:Nat}(hn:∀id,V.born id->id<n):GH n (.obj k):=by
 cases k with
 |iter s pos=>trivial
 |mapo es=>
  obtain⟨ms,c,rfl,h1,h2⟩:=h;exact mF.bel hn h1
 |miter im k seen=>exact hn im h.1
theorem OR.cut{V V':cS}{n:Nat}{k:sA}{o:Obj}(hv:∀v p,aL V v p->aZ n p->aL V' v p)(h:OR V k o)(hb:GH n (.obj k)):OR V' k o:=by
 cases k with
 |iter s pos=>exact h
 |mapo es=>
  obtain⟨ms,c,rfl,h1,h2⟩:=h;exact⟨ms,c,rfl,h1.imp λv e he hr=>hv _ _ hr (hb e he),h2⟩
 |miter im k seen=>
  have h1:=hv _ _ (aL.mapp im h.1) (.mapp _ hb);generalize hq:Value.map (some (V.rho im))=q at h1;generalize hp:PV.mapp im=p at h1;cases h1<;>cases hp;rename_i hbn;injection hq with hq;injection hq with hq;exact⟨hbn,by rw[h.2,hq]⟩
def jF(n:Nat)(H:aC):Prop:=∀o∈H,GH n o
theorem aE.Ok.hbel{E:aE}(h:E.Ok):jF E.H.length E.H:=by
 intro o ho;obtain⟨id,hid,rfl⟩:=List.getElem_of_mem ho;cases hq:E.H[id]with
 |row cs=>
  intro c hc;obtain⟨arr,elem,h1,h2,h3,h4⟩:=h.rows id cs (by rw[aTd hid,hq]);obtain⟨i,hl,rfl⟩:=List.getElem_of_mem hc;exact(h3 i hl).bel λid hb=>SK hb
 |obj k=>
  obtain⟨⟨o,h1,h2⟩,_⟩:=h.objs.at_ id k (by rw[aTd hid,hq]);exact h2.bel λid hb=>SK hb
 |_=>trivial
def aE.cutH(E:aE)(H1:aC):aE:= {E with H:=H1}
section cutH
variable{E:aE}(ho:E.Ok){H1 L:aC}(hE:E.H=H1++L)
include hE
omit hE in
theorem mC{H1 L H:aC}(hE:H=H1++L){id:Nat}(hid:id<H1.length):H[id]? =H1[id]? :=by rw[hE,aSv hid]
theorem aE.cutH_rel{v:Value}{p:PV}(h:aL E.view v p)(hp:aZ H1.length p):aL (E.cutH H1).view v p:=by
 refine aL.cut (V:=E.view) (V':=(E.cutH H1).view) (n:=H1.length) (λa v h=>h) (λid hid hb=>⟨?_,rfl,λt ht=> ?_⟩) h hp
 ·obtain⟨o,h1,h2⟩:=hb;exact⟨o,by show H1[id]? =some o;rw[<-mC hE hid];exact h1,h2⟩
 ·simp only[aE.view,aE.cutH,<-mC hE hid]at ht⊢;exact ht
theorem aE.cutH_leN{n:Nat}(hn:n<=H1.length):E.leN n (E.cutH H1):=by
 refine⟨rfl,rfl,rfl,aSl _,λb hb _=>⟨rfl,rfl⟩,λa v h=>h,λid hid hb=>⟨?_,rfl,λt' ht=>⟨t', ?_, .inl rfl⟩⟩,λb hb=>Or.imp ?_ (Or.imp ?_ (aE.ownsObj_of (E:=E) (E':=E.cutH H1) λid k h1=>⟨by rw[mC hE (lG h1)];exact h1,rfl⟩))⟩
 ·obtain⟨o,h1,h2⟩:=hb;exact⟨o,by show H1[id]? =some o;rw[<-mC hE z8];exact h1,h2⟩
 ·have hid':id<H1.length:=z8
  simp only[aE.view,aE.cutH,<-mC hE hid']at ht⊢;exact ht
 ·rintro⟨id,cs,h1,h2⟩;exact⟨id,cs,by rw[mC hE (lG h1)];exact h1,h2⟩
 ·rintro⟨id,m,sz,h1,h2⟩;exact⟨id,m,sz,by rw[mC hE (lG h1)];exact h1,h2⟩
include ho in
theorem aE.Ok.cutH(hb:jF H1.length H1):(E.cutH H1).Ok:=by
 have hg:∀ {id:Nat} {o:AObj},H1[id]? =some o->E.H[id]? =some o:=λh=>by rw[mC hE (lG h)];exact h
 refine⟨?_, ?_, ?_, ?_,ho.globs_of (λa v h=>h) λid b vs hi=>hg hi,⟨λid k hi=> ?_,λid id' k k' h1 h2 e=>ho.objs.inj id id' k k' (hg h1) (hg h2) e⟩⟩
 rotate_left 4
 ·obtain⟨⟨o,a1,a2⟩,a3⟩:=ho.objs.at_ id k (hg hi);exact⟨⟨o,a1,a2.cut (λv p hv hp=>aE.cutH_rel hE hv hp) (hb _ (List.mem_of_getElem? hi))⟩,a3⟩
 ·intro id cs hi;obtain⟨arr,elem,h1,h2,h3,h4⟩:=ho.rows id cs (hg hi);have hm:AObj.row cs∈H1:=List.mem_of_getElem? hi;exact⟨arr,elem,h1,h2,λi hl=>aE.cutH_rel hE (h3 i hl) (hb _ hm _ (aTk hl)),h4⟩
 ·intro id n sz b hi hb;exact ho.bufs id n sz b (hg hi) hb
 ·intro id id' cs cs' h1 h2 e;exact ho.injr id id' cs cs' (hg h1) (hg h2) e
 ·intro id id' n sz n' sz' b h1 h2 e e';exact ho.injb id id' n sz n' sz' b (hg h1) (hg h2) e e'
end cutH
def keep(live:List Nat)(T:aD):aD:=λi=>if i∈live then T i else .junk
theorem DF{E:aE}{a:Act}(ht:eR E.view N a T){H1 L:aC}(hE:E.H=H1++L){live:List Nat}(hl:∀i∈live,aZ H1.length (T i)):eR (E.cutH H1).view N a (keep live T):=by
 refine⟨ht.size,ht.defers,λi hi=> ?_⟩;unfold keep
 split
 ·rename_i hm;exact aE.cutH_rel hE (ht.rel i hi) (hl i hm)
 ·exact .junk _
theorem aKu{c:Code}(live:List Nat){H1 L:aC}(hH:H=H1++L)(hn:nb<=H1.length)(hb:jF H1.length H1)(hl:∀i∈live,aZ H1.length (T i))(h:eA P N nb c Q (keep live T) H1):eA P N nb c Q T H:=by
 intro E a ho hE ht;have hE':E.H=H1++L:=hE.trans hH;exact wp_mono (h (E.cutH H1) a (ho.cutH hE' hb) rfl (DF ht hE' hl)) λe a w hl=>eP (aE.cutH_leN hE' hn) (λ_ _ _ q=>q) hl
theorem aBb{c:Code}(live:List Nat)(I:Nat->aD->aC->Prop)(n0:Nat)(h0:I n0 T H)
  (round:∀n T H,I n T H->eA P N nb c (aW (λT' H'=>∃n' H1 L,n'<n/\H'=H1++L/\nb<=H1.length/\jF H1.length H1/\(∀i∈live,aZ H1.length (T' i))/\I n' (keep live T') H1) Q) T H):eA P N nb (.loop c) Q T H:=by
 intro E a ho hH ht
 let J:Nat->Act->World->Prop:=λn a w=>∃E' T',E'.w=w/\E.leN nb E'/\E'.Ok/\eR E'.view N a T'/\I n T' E'.H
 refine wp_loop (λa w=>∃n,J n a w) (λa w=>BN (λn=>J n a w)) ⟨n0,E,T,rfl, .refl nb E,ho,ht,hH▸h0⟩ ?_;intro a1 w1 hJ;obtain⟨E1,T1,hw1,hle,ho1,ht1,hI⟩:=tG hJ;have hr:=round _ T1 E1.H hI E1 a1 ho1 rfl ht1;rw[hw1]at hr;refine wp_mono hr ?_;intro e a' w' hl;obtain⟨E',T',rfl,h2,h3,h4,h5⟩:=hl;cases e with
 |normal=>
  obtain⟨n',H1,L,hn,hE,hnb,hb,hlv,hI'⟩:=h5;have hJ':J n' a' E'.w:=⟨E'.cutH H1,keep live T',rfl,(hle.trans h2).trans (aE.cutH_leN hE hnb),h3.cutH hE hb,DF h4 hE hlv,hI'⟩;exact⟨⟨n',hJ'⟩,Nat.lt_of_le_of_lt (yP hJ') hn⟩
 |_=>exact⟨E',T',rfl,hle.trans h2,h3,h4,h5⟩
def aN(P:Program)(f:FuncId)(args:List PV)(H:aC)(R:PV->aC->Prop):Prop:=
 ∀(E:aE) (vargs:Array Value),E.Ok->E.H=H->RL E.view vargs args->Calls P f vargs E.w λe w'=>∃(E':aE) (v:Value) (r:PV),e= .returned v/\E'.w=w'/\E.le E'/\E'.Ok/\aL E'.view v r/\R r E'.H
theorem aN.mono{f:FuncId}{args:List PV}{R R':PV->aC->Prop}(h:aN P f args H R)(hr:∀r H,R r H->R' r H):aN P f args H R':=
 λE vargs ho hH hl=>(h E vargs ho hH hl).mono λe w' ⟨E',v,r,h1,h2,h3,h4,h5,h6⟩=>⟨E',v,r,h1,h2,h3,h4,h5,hr _ _ h6⟩
def yE(H:aC)(e:qD):aC:=
 match e with
 |some (id,o)=>if id=H.length then H++ [o]else H.set id o
 |none=>H
theorem yO{H:aC}{id:Nat}{o:AObj}(h:H[id]? =some o):(H++ [AObj.unborn])[id]? =some o:=by
 rw[aSv (lG h)];exact h
theorem WJ{i:TI}{x v:PV}(h:iQ i H x=some v):iQ i (H++ [.unborn]) x=some v:=by
 unfold iQ at h⊢
 split at h
 ·rename_i id off
  split at h
  ·rename_i cs hcs;simp only[yO hcs];exact h
  ·cases h
 ·exact h
 ·cases h
theorem JC{fresh:Nat}{b:Builtin}{xs:List Operand}{ts:List TypeId}{v:PV}{e:qD}(h:dX P fresh T H b xs ts=some (v,e)):dX P fresh T (H++ [.unborn]) b xs ts=some (v,e):=by
 unfold dX at h⊢
 split at h
 ·exact h
 ·exact h
 ·exact h
 ·rename_i x y t u;obtain⟨ei,hf,h⟩:=bind_some h;obtain⟨z,hz,h⟩:=bind_some h;simp only[hf,hz,aSy]
  split at h
  ·rename_i hc;rw[if_pos hc];unfold dQ at h⊢
   split at h
   ·split at h
    ·rename_i hx;rw[if_pos hx];exact h
    ·rename_i hx;rw[if_neg hx]
     split at h
     ·rename_i hc2;rw[if_pos hc2]
      split at h
      ·exact h
      ·rename_i id
       split at h
       ·rename_i n sz hid;simp only[yO hid];exact h
       ·cases h
      ·cases h
     ·cases h
   ·cases h
  ·cases h
 ·cases h
theorem MW{t:TypeId}{x k v:PV}{ok:Bool}(h:lC P H t x k ok=some v):lC P (H++ [.unborn]) t x k ok=some v:=by
 unfold lC at h⊢
 split at h
 ·split at h
  ·rename_i hid;simp only[yO hid];exact h
  ·cases h
 ·cases h
theorem MF{t:TypeId}{x k v:PV}{p:Nat×AObj}(h:mH P H t x k v=some p):mH P (H++ [.unborn]) t x k v=some p:=by
 unfold mH at h⊢
 split at h
 ·split at h
  ·rename_i hid;simp only[yO hid];exact h
  ·cases h
 ·cases h
theorem aEe{mt:Bool}{fresh:Nat}{o:Op}{v:PV}{e:qD}(h:eU P mt fresh T H o=some (v,e)):eU P mt fresh T (H++ [.unborn]) o=some (v,e):=by
 unfold eU at h⊢
 split at h<;>try exact h
 ·obtain⟨i,hi,h⟩:=bind_some h;obtain⟨p,hp,h⟩:=bind_some h;simp only[hi,aSy,WJ hp];exact h
 ·obtain⟨i,hi,h⟩:=bind_some h;obtain⟨p,hp,h⟩:=bind_some h;simp only[hi,aSy];have:∀ {x y:PV} {q},mY i H x y=some q->mY i (H++ [.unborn]) x y=some q:=by
   intro x y q hq;unfold mY at hq⊢
   split at hq
   ·split at hq
    ·rename_i cs hcs;simp only[yO hcs];exact hq
    ·cases hq
   ·cases hq
  simp only[this hp,aSy];exact h
 ·obtain⟨p,hp,h⟩:=bind_some h;simp only[MW hp,aSy];exact h
 ·obtain⟨p,hp,h⟩:=bind_some h;simp only[MF hp,aSy];exact h
 ·split at h
  ·exact JC h
  ·cases h
def bH(P:Program)(N nb:Nat)(ops:Array Oper)(Q:dG)(l:List Oper)(T:aD)(H:aC):Prop:=
 ∀(E:aE) (a:Act),E.Ok->E.H=H->eR E.view N a T->wpList P ops (BR N nb E Q) l a E.w
def aU(ops:List Oper)(T:aD)(N:Nat)(o:Oper):Option Bool:=
 match o.guard with
 |none=>some true
 |some (j,want)=>match(ops[j]?).bind (·.dst)with
  |some d=>if d<N then match T d with
   | .bool b=>some (b==want)
   |_=>none
   else none
  |none=>none
theorem cB{ops:Array Oper}{o:Oper}{b:Bool}{V:cS}{a:Act}(ht:eR V N a T)(h:aU ops.toList T N o=some b):Region.wanted o (yielded ops a.tmps)=b:=by
 unfold aU at h;unfold Region.wanted
 split at h
 ·cases h;rename_i hg;simp only[hg]
 ·rename_i j want hg;simp only[hg]
  split at h
  ·rename_i d hd
   split at h
   ·rename_i hdN
    split at h
    ·rename_i q hq;cases h;have hr:=ht.rel d hdN;rw[hq]at hr;have hv:=hr.bool_inv;have hy:yielded ops a.tmps j=some q:=by
      unfold yielded;rw[aTf]at hd;rw[hd];simp only[aSy];rw[aSo,aSt (by rw[ht.size];exact hdN)]at hv;rw[aSt (by rw[ht.size];exact hdN)];simp only[aSu]at hv;rw[hv]
     rw[hy];cases q<;>cases want<;>rfl
    ·cases h
   ·cases h
  ·cases h
theorem iS{P:Program}{ops:Array Oper}{Q:Exit->Act->World->Prop}{a:Act}{w:World}{rest:List Oper}{o:Oper}(hw:Region.wanted o (yielded ops a.tmps)=true)
  (h:o.wp P a w (wpList P ops Q rest) Q):wpList P ops Q (o::rest) a w:=by
 unfold wpList;rw[if_pos hw];exact .inl h
theorem oN{ops:Array Oper}(h:Q .normal T H):bH P N nb ops Q [] T H:=λE a ho hH ht=>⟨E,T,rfl, .refl nb E,ho,ht,hH▸h⟩
theorem eV{P:Program}{ops:Array Oper}{Q Q':Exit->Act->World->Prop}(hq:∀e a w,Q e a w->Q' e a w):∀(l:List Oper) (a:Act) (w:World),wpList P ops Q l a w->wpList P ops Q' l a w
 | [],a,w,h=>hq _ _ _ h
 |o::l,a,w,h=>by
  have hout:LetsOut Q->LetsOut Q':=λ⟨a,w,x⟩=>⟨a,w,hq _ _ _ x⟩;unfold wpList at h⊢
  split at h
  ·rename_i hw;rw[if_pos hw];rcases h with h| ⟨h1,h2⟩
   ·left;unfold Oper.wp at h⊢;generalize (execOp a.eval o).run P w=r at h⊢;unfold Oper.upon at h⊢
    split at h
    ·exact eV hq l _ _ h
    ·exact eV hq l _ _ h
    ·exact eV hq l _ _ h
    ·refine h.mono λe w'' he=> ?_;cases e with
     |returned v=>exact eV hq l _ _ he
     |panicked ch=>exact hq _ _ _ he
     |outgrown=>exact hout he
    ·exact h.mono λv w'' he=>eV hq l _ _ he
    ·exact hq _ _ _ h
    ·exact h.elim
   ·exact .inr ⟨h1,hout h2⟩
  ·rename_i hw;rw[if_neg hw];exact eV hq l _ _ h
theorem VT{ops:Array Oper}{o:Oper}{l:List Oper}(hw:aU ops.toList T N o=some false)(h:bH P N nb ops Q l (bU T o.dst .junk) H):bH P N nb ops Q (o::l) T H:=by
 intro E a ho hH ht;unfold wpList;rw[if_neg (by rw[cB ht hw];simp)];exact h E _ ho hH (ht.put o.dst (.junk _))
theorem fW{ops:Array Oper}{o:Oper}{l:List Oper}{v:PV}{H':aC}(hw:aU ops.toList T N o=some true)
  (hd:∀(E:aE) (a:Act),E.Ok->E.H=H->eR E.view N a T->∃(E':aE) (val:Value),((execOp a.eval o).run P E.w= .ok (.value val) E'.w\/((execOp a.eval o).run P E.w= .ok .skip E'.w/\val=undef))/\E.le E'/\E'.Ok/\E'.H=H'/\aL E'.view val v)
  (h:bH P N nb ops Q l (bU T o.dst v) H'):bH P N nb ops Q (o::l) T H:=by
 intro E a ho hH ht;obtain⟨E',val,h1,h2,h3,h4,h5⟩:=hd E a ho hH ht;refine iS (cB ht hw) ?_;have hn:=eV (λe a w hl=>eP (h2.leN nb) (λ_ _ _ q=>q) hl) l _ _ (h E' (a.put o.dst val) h3 h4 ((ht.mono h2.view).put o.dst h5));unfold Oper.wp;rcases h1 with h1| ⟨h1,rfl⟩
 ·rw[h1];exact hn
 ·rw[h1];exact hn
theorem CJ{ops:Array Oper}{o:Oper}{l:List Oper}(mt:Bool){v:PV}{e:qD}{H':aC}(hw:aU ops.toList T N o=some true)(hok:cK N o.op=true)(hv:eU P mt H.length T H o.op=some (v,e))
  (hH':yE H e=H') (h:bH P N nb ops Q l (bU T o.dst v) H'):bH P N nb ops Q (o::l) T H:=by
 refine fW hw (λE a ho hH ht=> ?_) h;subst hH
 by_cases hn:∃ob,e=some (E.H.length,ob)
 ·obtain⟨ob,rfl⟩:=hn;have hx:=E.ext_le;obtain⟨E',val,h1,h2,h3,h4,h5⟩:=sN (E:=E.ext) ho.ext (ht.mono hx.view) hok (mt:=mt) (fresh:=E.H.length) (v:=v) (eff:=some (E.H.length,ob)) (aEe hv)
   (λ_ _=>by simp[aE.ext])
  refine⟨E',val,h1,hx.trans h2,h3, ?_,h5⟩;rw[h4,<-hH'];simp only[qD.app,yE,if_true,aE.ext];rw[aTw _ _ (aSl _)];simp
 ·obtain⟨E',val,h1,h2,h3,h4,h5⟩:=sN ho ht hok hv (λob he=>(hn ⟨ob,he⟩).elim);refine⟨E',val,h1,h2,h3, ?_,h5⟩;rw[h4,<-hH'];cases e with
  |none=>rfl
  |some q=>
   obtain⟨id,ob⟩:=q;simp only[qD.app,yE];rw[if_neg (λe=>hn ⟨ob,by rw[e]⟩)]
def aP(P:Program)(f:FuncId):Bool:=
 match P.funcs[f]? with
 |some fn=>fn.body.isSome&& !(fn.name== "runtime.NumGoroutine")
 |none=>false
theorem oR{P:Program}{w:World}{f:FuncId}(h:aP P f=true)(args:Array Value):(callFunc f args).run P w= .ok (.enter f args) w:=by
 unfold aP at h
 split at h
 ·rename_i fn hf;simp only[aSe,aSf]at h;have hb:fn.body.isNone=false:=by cases hq:fn.body<;>simp_all
  simp only[callFunc,aS4,DK,aS5,hf,h.2,aTc,if_false,hb,aS7]
 ·cases h
theorem jU{V:cS}{a b:Array Value}{x y:List PV}(h1:RL V a x)(h2:RL V b y):RL V (a++b) (x++y):=pA h1 h2
theorem OD{V:cS}{a:Array Value}{x:List PV}(h:RL V a x):RL V a (x.map PV.drop1):=
 ⟨by simpa using h.1,nZ h.2⟩
theorem VO{ops:Array Oper}{o:Oper}{l:List Oper}{fo:Operand}{xs:Array Operand}{ts:Array TypeId}(hop:o.op= .call ⟨.value fo,xs,ts⟩)(hw:aU ops.toList T N o=some true)(hok:cK N o.op=true)
  {f:FuncId} {pf pc:List PV} (hf:bT T fo= .fn (.func f) pf pc) (hgo:aP P f=true) {args:List PV} (hargs:pf++(xs.toList.map λx=>(bT T x).drop1)++pc=args) {R:PV->aC->Prop} (hc:aN P f args H R)
  (h:∀r H',R r H'->bH P N nb ops Q l (bU T o.dst r) H'):bH P N nb ops Q (o::l) T H:=by
 intro E a ho hH ht;refine iS (cB ht hw) ?_;have hall:∀x∈o.op.operands.toList,aQ N x=true:=λx hx=>aTr.1 hok x hx;rw[hop]at hall;simp only[Op.operands,Call.operands]at hall;have hr:=aM ht fo (hall fo z6);rw[hf]at hr;obtain⟨first,caps,hval,h1,h2⟩:∃first caps,a.eval fo= .func (.func f) first caps/\RL E.view first pf/\RL E.view caps pc:=by
  generalize a.eval fo=y at hr;cases hr with
  |fn _ first caps _ _ hf hc hrf hrc=>exact⟨first,caps,rfl,⟨hf,hrf⟩,⟨hc,hrc⟩⟩
 have h3:=DL ht xs (aTr.2 λx hx=>hall x (by simp;right;simpa using hx));have hrl:=jU (jU h1 h3) h2;rw[hargs]at hrl;have hrun:(execOp a.eval o).run P E.w= .ok (.enter f (first++xs.map a.eval++caps)) E.w:=by
  unfold execOp;rw[hop];simp only[resolve,hval,Deferred.ofValue,aS4,aS7,aS5,invoke,oR hgo]
 unfold Oper.wp;rw[hrun];refine(hc E _ ho hH hrl).mono ?_;rintro e w' ⟨E',v,r,rfl,rfl,h5,h6,h7,h8⟩;exact eV (λe a w hl=>eP (h5.leN nb) (λ_ _ _ q=>q) hl) l _ _ (h r E'.H h8 E' (a.put o.dst v) h6 rfl ((ht.mono h5.view).put o.dst h7))
theorem wR{id:Nat}{ops:Array Oper}(h:bH P N nb ops Q ops.toList T H):eA P N nb (.region id ops false) Q T H:=
 λE a ho hH ht=>wp_region_list (h E a ho hH ht)
def kY(P:Program)(N:Nat)(T:aD)(H:aC):ResultVar->Option PV
 | .tmp t=>if t<N then some (T t)else none
 | .cell t ty=>if t<N then(cV P ty).bind λi=>iQ i H (T t)else none
def fP(P:Program)(N:Nat)(T:aD)(H:aC)(rs:List ResultVar):Option PV:=
 match rs with
 | [r]=>kY P N T H r
 |rs=>(rs.mapM (kY P N T H)).map λvs=>.tup (vs.map PV.drop1)
def aEp(tmps:Array Value):ResultVar->Sem Value
 | .tmp t=>pure (tmps.getD t undef)
 | .cell a t=>do loadVar t (<-asAddr (tmps.getD a undef))
theorem RD(fn:Func)(tmps:Array Value):results fn tmps=(do let vs<-fn.results.mapM (aEp tmps);pure (if h:vs.size=1 then vs[0]else .tuple vs)):=by
 unfold results;congr 2
theorem LG{E:aE}{a:Act}(ho:E.Ok)(ht:eR E.view N a T){r:ResultVar}{v:PV}(h:kY P N T E.H r=some v):
  ∃val,(aEp a.tmps r).run P E.w= .ok val E.w/\aL E.view val v:=by
 cases r with
 |tmp t=>
  unfold kY at h;simp only at h
  split at h
  ·rename_i hN;cases h;exact⟨_,rfl,ht.rel t hN⟩
  ·cases h
 |cell x t=>
  unfold kY at h;simp only at h
  split at h
  ·rename_i hN;obtain⟨i,hi,hv⟩:=bind_some h;obtain⟨val,h1,h2⟩:=CV (P:=P) ho ht (x:=.tmp x) (by simpa[aQ]using hN) hi hv;refine⟨val, ?_,h2⟩;have hp:∃ad,a.tmps.getD x undef= .pointer (some ad):=by
    have hr:=ht.rel x hN;unfold iQ at hv
    skip
    split at hv
    ·rename_i id off hT;rw[hT]at hr;exact⟨_,hr.optr_inv.1⟩
    ·rename_i cs hT;rw[hT]at hr;obtain⟨ad,_,e,_,_⟩:=hr.iptr_inv;exact⟨ad,e⟩
    ·cases hv
   obtain⟨ad,hp⟩:=hp;simp only[Act.eval,Instr.loadAt,hp,Instr.sureAddr,aS4,aS7,aS5]at h1;simp only[aEp,hp,asAddr,aS4,aS7,aS5];exact h1
  ·cases h
theorem NU:∀(rs:List ResultVar) (vs:List PV),rs.mapM (kY P N T H)=some vs->vs.length=rs.length:=by
 intro rs
 induction rs with
 |nil=>intro vs h;simp at h;subst h;rfl
 |cons r rs ih=>
  intro vs h;rw[List.mapM_cons]at h;cases h1:kY P N T H r with
  |none=>rw[h1]at h;simp at h
  |some v=>
   cases h2:rs.mapM (kY P N T H)with
   |none=>rw[h1]at h;simp[h2]at h
   |some vs'=>rw[h1]at h;simp[h2]at h;subst h;simp[ih vs' h2]
theorem DB{E:aE}{a:Act}(ho:E.Ok)(ht:eR E.view N a T):∀(rs:List ResultVar) (vs:List PV),rs.mapM (kY P N T E.H)=some vs->
   ∃vals:List Value,(rs.mapM (aEp a.tmps)).run P E.w= .ok vals E.w/\vals.length=vs.length/\∀i (h:i<vs.length),aL E.view (vals.getD i undef) vs[i]:=by
 intro rs
 induction rs with
 |nil=>intro vs h;simp at h;subst h;exact⟨[],rfl,rfl,λi h=>absurd h z6⟩
 |cons r rs ih=>
  intro vs h;rw[List.mapM_cons]at h;cases h1:kY P N T E.H r with
  |none=>rw[h1]at h;simp at h
  |some v=>
   cases h2:rs.mapM (kY P N T E.H)with
   |none=>rw[h1]at h;simp[h2]at h
   |some vs'=>
    rw[h1]at h;simp[h2]at h;subst h;obtain⟨val,e1,e2⟩:=LG ho ht h1;obtain⟨vals,e3,e4,e5⟩:=ih vs' h2;refine⟨val::vals, ?_,by simp[e4],λi hi=> ?_⟩
    ·rw[List.mapM_cons];simp only[aS4,e1,aS5,e3,aS7]
    ·cases i with
     |zero=>exact e2
     |succ i=>exact e5 i (by simpa using hi)
theorem vA{E:aE}{a:Act}(ho:E.Ok)(ht:eR E.view N a T){fn:Func}{v:PV}(h:fP P N T E.H fn.results.toList=some v):
  ∃val,(results fn a.tmps).run P E.w= .ok val E.w/\aL E.view val v:=by
 unfold fP at h;rw[RD,Array.mapM_eq_mapM_toList]
 split at h
 ·rename_i r hr;obtain⟨vals,e1,e2,e3⟩:=DB ho ht [r] [v] (by rw[List.mapM_cons,h];rfl);rw[hr]
  match vals,e2 with
  | [val],_=>
   refine⟨val, ?_,e3 0 z6⟩;simp only[aS4,Sem.run_map,e1,aS5,aS7];rfl
 ·rename_i rs hne;cases h1:fn.results.toList.mapM (kY P N T E.H)with
  |none=>rw[h1]at h;cases h
  |some vs=>
   rw[h1]at h;simp only[aS1,Option.some.injEq]at h;subst h;obtain⟨vals,e1,e2,e3⟩:=DB ho ht _ vs h1;have hl:=NU _ _ h1;have hne1:¬vals.toArray.size=1:=by
    intro hs;have hl2:fn.results.toList.length=1:=by rw[<-hl,<-e2];simpa using hs
    obtain⟨r,hr⟩:=List.length_eq_one_iff.1 hl2;exact hne r hr
   refine⟨.tuple vals.toArray, ?_, .tup _ _ (by simp[e2]) (nZ (λi hi=> ?_))⟩
   ·simp only[aS4,Sem.run_map,e1,aS5,aS7,dif_neg hne1]
   ·have:=e3 i hi;rw[aTe]at this;rw[aSo,aTa];exact this
def enter(args:List PV):aD:=λi=>args.getD i .junk
theorem aF{f:FuncId}{fn:Func}{c:Code}{args:List PV}{R:PV->aC->Prop}(hf:P.funcs[f]? =some fn)(hb:fn.body=some c)(hN:fn.ntmps=N)(hl:args.length<=N)
  (h:jF H.length H->eA P N H.length c (λe T H=>(e= .normal\/e= .ret)/\∃r,fP P N T H fn.results.toList=some r/\R r H) (enter args) H):aN P f args H R:=by
 intro E vargs ho hH hrl;refine calls_of_wp hf hb (wp_mono (h (by have:=ho.hbel;rw[hH]at this;exact this) E _ ho hH ⟨by simp[hrl.1,hN];omega,rfl,λi hi=> ?_⟩) ?_)
 ·rw[aSo,Array.getElem?_append];unfold enter
  by_cases hia:i<args.length
  ·rw[if_pos (by rw[hrl.1];exact hia),<-aSo,aTe,aTd hia];exact hrl.2 i hia
  ·rw[aTe,aSx z8];exact .junk _
 ·rintro e a w ⟨E',T',rfl,h2,h3,h4,he,r,hr,hR⟩;obtain⟨val,h5,h6⟩:=vA (P:=P) (fn:=fn) h3 h4 hr;rcases he with rfl|rfl
  ·exact⟨h4.defers,val,h5,E',val,r,rfl,rfl,(hH▸h2:E.leN E.H.length E').le,h3,h6,hR⟩
  ·exact⟨h4.defers,val,h5,E',val,r,rfl,rfl,(hH▸h2:E.leN E.H.length E').le,h3,h6,hR⟩
end rules
section
variable{P:Program}
theorem aN.pure{f:FuncId}{args:List PV}{r:PV}(h:aN P f args [] λr' _=>r'.drop1=r)(ha:∀p∈args,aZ 0 p)(hr:aZ 0 r)(H:aC):
  aN P f args H λr' H'=>r'=r/\H'=H:=by
 intro E vargs ho hH hrl
 let E0:aE:= {E with H:= []}
 have ho0:E0.Ok:=⟨λid cs h=>by simp[E0]at h,λid n sz b h=>by simp[E0]at h,λid id' cs cs' h=>by simp[E0]at h,λid id' n sz n' sz' b h=>by simp[E0]at h,λid b vs h=>by simp[E0]at h,⟨λid k h=>by simp[E0]at h,λid id' k k' h=>by simp[E0]at h⟩⟩;have hcell:∀a v,E.view.cell a=some v->E0.view.cell a=some v:=λa v h=>h;have hrl0:RL E0.view vargs args:=⟨hrl.1,λi hi=>(hrl.2 i hi).cut (n:=0) hcell (λid h=>absurd h z8) (ha _ (aTk hi))⟩;refine(h E0 vargs ho0 rfl hrl0).mono ?_;rintro e w' ⟨E1,v,r',rfl,rfl,hle,ho1,hv,hq⟩;have hno:∀b,¬E0.owns b:=by rintro b (⟨id,cs,h,_⟩| ⟨id,n,sz,h,_⟩| ⟨id,k,h,_⟩)<;>simp[E0]at h
 have hsame:∀b,b<E.w.heap.size->E1.κ b=E.κ b/\E1.w.heap[b]? =E.w.heap[b]? :=λb hb=>hle.other b hb (hno b)
 let E2:aE:= {E1 with ρ:=E.ρ,tb:=E.tb,H:=E.H}
 have hview:E.view.le E2.view:=by
  refine⟨λa v hc=>hle.view.cell a v hc,λid h=>h,λid _=>rfl,λid t' hb ht=>⟨t', ?_, .inl rfl⟩⟩;simp only[aE.view,E2]at ht⊢
  split at ht
  ·rename_i n sz hid;rw[<-ht];cases htb:E.tb id with
   |none=>rfl
   |some b=>simp only[aSy,(hsame b (ho.bufBlock hid htb)).1]
  ·cases ht
 have hle2:E.le E2:=by
  refine⟨hle.os,hle.tape,hle.output,hle.size,λb hb _=>hsame b hb,hview,λb _=>id⟩
 have ho2:E2.Ok:=by
  refine⟨?_, ?_,ho.injr,ho.injb,ho.globs_of hview.cell λ_ _ _ h=>h,ho.objs.of hview λid k hi=>let ⟨s1,s2⟩:=hsame _ (ho.objs.lt hi);⟨hi,rfl,s2,s1⟩⟩
  ·intro id cs hi;obtain⟨arr,elem,h1,h2,h3,h4⟩:=ho.rows id cs hi;obtain⟨s1,s2⟩:=hsame _ (ho.rowBlock hi);exact⟨arr,elem,s2.trans h1,h2,λi hl=>(h3 i hl).mono hview,s1.trans h4⟩
  ·intro id n sz b hi hb;obtain⟨arr,elem,pos,h1,h2⟩:=ho.bufs id n sz b hi hb;obtain⟨s1,s2⟩:=hsame _ (ho.bufBlock hi hb);exact⟨arr,elem,pos,s2.trans h1,s1.trans h2⟩
 refine⟨E2,v,r,rfl,rfl,hle2,ho2, ?_,rfl,hH⟩;have hv':=hv.drop1;rw[hq]at hv';exact aL.cut (V:=E1.view) (V':=E2.view) (n:=0) (λa v h=>h) (λid h=>absurd h z8) hv' hr
theorem aN.trunc{f:FuncId}{args:List PV}{H:aC}{R:PV->aC->Prop}
  (h:aN P f args H λr H'=>∃H1 L,H'=H1++L/\H1.length=H.length/\(jF H.length H->jF H.length H1)/\aZ H.length r/\R r H1):aN P f args H R:=by
 intro E vargs ho hH hrl;refine(h E vargs ho hH hrl).mono ?_;rintro e w' ⟨E1,v,r,rfl,rfl,hle,ho1,hv,H1,L,hE1,hlen,hbel,hr,hR⟩;have hb1:jF H1.length H1:=by rw[hlen];exact hbel (by have:=ho.hbel;rw[hH]at this;exact this)
 refine⟨E1.cutH H1,v,r,rfl,rfl, ?_,ho1.cutH hE1 hb1,aE.cutH_rel hE1 hv (by rw[hlen];exact hr),hR⟩;have hn:E.H.length=H1.length:=by rw[hH,hlen]
 exact((hle.leN E.H.length).trans (aE.cutH_leN hE1 (Nat.le_of_eq hn))).le
end
def rF(ops:List Oper)(o:Oper):List Nat:=
  (o.op.operands.toList.filterMap fun| .tmp t=>some t|_=>none)++(match o.guard with|some (j,_)=>((ops[j]?).bind (·.dst)).toList|none=> [])
def lQ(H:aC)(es:List (Nat×AObj)):aC:=es.foldl (λH x=>H.set x.1 x.2) H
def Rob(P:Program)(N:Nat)(ops:Array Oper)(o:Oper)(T:aD)(H:aC)(v:PV)(eff:List (Nat×AObj))(rd:List Nat):Prop:=
  ∀(T':aD) (H':aC),(∀t∈rF ops.toList o,T' t=T t)->(∀id∈rd,H'[id]? =H[id]?)->H'.length=H.length->
    ∀(E:aE) (a:Act),E.Ok->E.H=H'->eR E.view N a T'->
      (Region.wanted o (yielded ops a.tmps)=false/\eff= []/\(v= .junk\/v= .tup []))\/
      (Region.wanted o (yielded ops a.tmps)=true/\∀(next:Act->World->Prop) (Q:Exit->Act->World->Prop),
        (∀(E':aE) (val:Value),E.le E'->E'.Ok->E'.H=lQ H' eff->aL E'.view val v->next (a.put o.dst val) E'.w)->o.wp P a E.w next Q)
def EN(acc:List Nat)(o:Oper):List Nat:=
  acc++ [o.after.toList.foldl (λs e=>if Region.binds .any e then s ||| 2^e.on ||| acc.getD e.on 0 else s) 0]
def cL(l:List Oper):List Nat:=l.foldl EN []
inductive Bf(ops:List Oper):Nat->Nat->Prop
  |edge {j:Nat} {o:Oper} {e:Edge} (ho:ops[j]? =some o) (he:e∈o.after.toList) (hb:Region.binds .any e=true):Bf ops e.on j
  |trans {i k j:Nat} (h1:Bf ops i k) (h2:Bf ops k j):Bf ops i j
theorem AL{n i:Nat}(h:(2^n).testBit i=true):i=n:=by
  rw[Nat.testBit_two_pow]at h;exact(of_decide_eq_true h).symm
theorem oU(ops:List Oper):∀(n:Nat) (p rest:List Oper),p.length=n->p++rest=ops->(p.foldl EN []).length=p.length/\∀j i,((p.foldl EN []).getD j 0).testBit i=true->Bf ops i j:=by
  intro n
  induction n with
  |zero=>intro p rest hn h;obtain rfl:=aTx.1 hn;exact⟨rfl,λj i h=>by simp at h⟩
  |succ n ih=>
    intro p0 rest hn h;obtain⟨p,o,rfl⟩:∃p o,p0=p++ [o]:=by
      have hne:p0≠ []:=by rintro rfl;simp at hn
      exact⟨p0.dropLast,p0.getLast hne,(List.dropLast_concat_getLast hne).symm⟩
    obtain⟨h1,h2⟩:=ih p (o::rest) (by simpa using hn) (by simpa using h);rw[List.foldl_append];simp only[List.foldl_cons,List.foldl_nil,EN];refine⟨by simp[h1],λj i hb=> ?_⟩
    by_cases hj:j<p.length
    · rw[aTe,aSv z8,<-aTe]at hb
      exact h2 j i hb
    · by_cases hj':j=p.length
      · subst hj'
        rw[aTe,aSw z8,h1]at hb;simp only[Nat.sub_self,aTo,aSu]at hb;have ho:ops[p.length]? =some o:=by rw[<-h];simp
        have key:∀(es:List Edge) (s:Nat),(∀e∈es,e∈o.after.toList)->(∀i,s.testBit i=true->Bf ops i p.length)->
            (es.foldl (λs e=>if Region.binds .any e then s ||| 2^e.on ||| (p.foldl EN []).getD e.on 0 else s) s).testBit i=true->Bf ops i p.length:=by
          intro es
          induction es with
          |nil=>intro s _ hs hb;exact hs i hb
          |cons e es ih2=>
            intro s hm hs hb;simp only[List.foldl_cons]at hb;refine ih2 _ (λe he=>hm e (by simp[he])) (λi hi=> ?_) hb
            split at hi
            · rename_i hbd
              rw[Nat.testBit_or,Nat.testBit_or]at hi;simp only[aTy]at hi;have hed:Bf ops e.on p.length:=.edge ho (hm e z6) hbd;rcases hi with(hi|hi)|hi
              · exact hs i hi
              · rw[AL hi];exact hed
              · exact .trans (h2 _ _ hi) hed
            · exact hs i hi
        exact key o.after.toList 0 (λe he=>he) (λi hi=>by simp at hi) hb
      · rw[aTe,aSx (by simp[h1];omega)]at hb
        simp at hb
structure rN where
  o:Oper
  v:PV
  eff:List (Nat×AObj)
  rd:List Nat
def rN.app(s:rN)(x:aD×aC):aD×aC:=(bU x.1 s.o.dst s.v,lQ x.2 s.eff)
def cX(D:Nat->Bool):Nat->List rN->aD×aC->aD×aC
  |_,[],x=>x
  |k,s::l,x=>cX D (k+1) l (if D k then s.app x else x)
theorem uZ:∀(es:List (Nat×AObj)) (H:aC),(lQ H es).length=H.length
  | [],H=>rfl
  |e::es,H=>by
    show(lQ (H.set e.1 e.2) es).length=_;rw[uZ es];simp
theorem BI:∀(es:List (Nat×AObj)) (H:aC) (id:Nat),(∀e∈es,e.1≠id)->(lQ H es)[id]? =H[id]?
  | [],H,id,_=>rfl
  |e::es,H,id,h=>by
    show(lQ (H.set e.1 e.2) es)[id]? =_;rw[BI es _ id (λe he=>h e (by simp[he])),aS0 (h e z6)]
theorem uQ:∀(es:List (Nat×AObj)) (H H':aC) (id:Nat),H.length=H'.length->H[id]? =H'[id]? ->(lQ H es)[id]? =(lQ H' es)[id]?
  | [],H,H',id,_,h=>h
  |e::es,H,H',id,hl,h=>by
    refine uQ es _ _ id (by simp[hl]) ?_
    by_cases q:e.1=id
    · subst q
      by_cases hlt:e.1<H.length
      · rw[aSz hlt,aSz z8]
      · rw[aSx (by simp;omega),aSx (by simp;omega)]
    · rw[aS0 q,aS0 q];exact h
theorem IG:∀(es es':List (Nat×AObj)) (H:aC),(∀x∈es,∀y∈es',x.1≠y.1)->lQ (lQ H es) es'=lQ (lQ H es') es
  | [],es',H,_=>rfl
  |e::es,es',H,h=>by
    have h1:∀(es':List (Nat×AObj)) (H:aC),(∀y∈es',e.1≠y.1)->lQ (H.set e.1 e.2) es'=(lQ H es').set e.1 e.2:=by
      intro es'
      induction es' with
      |nil=>intro H _;rfl
      |cons f es' ih=>
        intro H hq;show lQ ((H.set e.1 e.2).set f.1 f.2) es'=(lQ (H.set f.1 f.2) es').set e.1 e.2;rw[List.set_comm _ _ (hq f z6),ih _ (λy hy=>hq y (by simp[hy]))]
    show lQ (lQ (H.set e.1 e.2) es) es'=lQ ((lQ H es').set e.1 e.2) es;rw[<-h1 es' H (λy hy=>h e z6 y hy)];exact IG es es' _ (λx hx y hy=>h x (by simp[hx]) y hy)
theorem WW{T:aD}{d d':Option Nat}{v v':PV}(h:d=none\/d'=none\/d≠d'):bU (bU T d v) d' v'=bU (bU T d' v') d v:=by
  cases d with
  |none=>rfl
  |some d=>
    cases d' with
    |none=>rfl
    |some d'=>
      have hne:d≠d':=by
        rcases h with h|h|h; · cases h
        · cases h
        · exact λe=>h (by rw[e])
      funext i;simp only[bU,oF]
      by_cases h1:i=d
      · subst h1;rw[if_neg hne,if_pos rfl,if_pos rfl]
      · by_cases h2:i=d'
        · subst h2;rw[if_pos rfl,if_neg h1,if_pos rfl]
        · rw[if_neg h2,if_neg h1,if_neg h1,if_neg h2]
def aBw(s s':rN):Prop:=(s.o.dst=none\/s'.o.dst=none\/s.o.dst≠s'.o.dst)/\∀x∈s.eff,∀y∈s'.eff,x.1≠y.1
theorem rN.comm{s s':rN}(h:aBw s s')(x:aD×aC):s'.app (s.app x)=s.app (s'.app x):=by
  unfold rN.app;rw[WW h.1,IG _ _ _ h.2]
theorem MU(D:Nat->Bool)(s:rN):∀(l:List rN) (k:Nat) (x:aD×aC),(∀j s',l[j]? =some s'->D (k+j)=true->aBw s s')->cX D k l (s.app x)=s.app (cX D k l x)
  | [],k,x,_=>rfl
  |s'::l,k,x,h=>by
    have ih:=λx=>MU D s l (k+1) x (λj s'' hj hD=>h (j+1) s'' (by simpa using hj) (by rw[show k+(j+1)=k+1+j by omega];exact hD));simp only[cX]
    split
    · rename_i hD
      rw[rN.comm (h 0 s' rfl hD),ih]
    · rw[ih]
theorem gW{D D':Nat->Bool}:∀(l:List rN) (k:Nat) (x:aD×aC),(∀j,j<l.length->D (k+j)=D' (k+j))->cX D k l x=cX D' k l x
  | [],_,_,_=>rfl
  |s::l,k,x,h=>by
    simp only[cX];have h0:D k=D' k:=by simpa using h 0 z6
    rw[h0];exact gW l (k+1) _ λj hj=>by have:=h (j+1) (by simpa using hj);rw[show k+(j+1)=k+1+j by omega]at this;exact this
theorem uK(D:Nat->Bool){i:Nat}(hi:D i=false):∀(l:List rN) (k:Nat) (x:aD×aC) (s:rN),k<=i->l[i-k]? =some s->(∀j s',i<k+j->l[j]? =some s'->D (k+j)=true->aBw s s')->cX (λj=>j==i||D j) k l x=s.app (cX D k l x)
  | [],k,x,s,_,h,_=>by simp at h
  |s'::l,k,x,s,hk,h,ha=>by
    simp only[cX]
    by_cases e:k=i
    · subst e
      simp only[Nat.sub_self,aTo,Option.some.injEq]at h;subst h;simp only[beq_self_eq_true,Bool.true_or,if_true,hi,aTc,if_false];rw[gW (D':=D) l (k+1) _ (λj hj=>by
        have:¬(k+1+j=k):=z8
        simp[this])]
      exact MU D s' l (k+1) x (λj s'' hj hD=>ha (j+1) s'' z8 (by simpa using hj) (by rw[show k+(j+1)=k+1+j by omega];exact hD))
    · have hne:(k==i)=false:=by simp[e]
      simp only[hne,Bool.false_or];exact uK D hi l (k+1) _ s z8 (by rw[show i-k=(i- (k+1))+1 by omega,aS3]at h;exact h)
        (λj s'' hj hl hD=>ha (j+1) s'' z8 (by simpa using hl) (by rw[show k+(j+1)=k+1+j by omega];exact hD))
theorem AK{D D':Nat->Bool}{t:Nat}:∀(l:List rN) (k:Nat) (x x':aD×aC),x.1 t=x'.1 t->(∀j s,l[j]? =some s->D (k+j)≠D' (k+j)->s.o.dst≠some t)->(cX D k l x).1 t=(cX D' k l x').1 t
  | [],_,_,_,h,_=>h
  |s::l,k,x,x',h,hd=>by
    simp only[cX];refine AK l (k+1) _ _ ?_ (λj s' hj hD=>hd (j+1) s' (by simpa using hj) (by rw[show k+(j+1)=k+1+j by omega];exact hD));have hsame:∀(x:aD×aC),s.o.dst≠some t->(s.app x).1 t=x.1 t:=by
      intro x hne;unfold rN.app bU oF;cases hq:s.o.dst with
      |none=>rfl
      |some d=>
        have:t≠d:=by rintro rfl;exact hne hq
        simp only[if_neg this]
    have hboth:(s.app x).1 t=(s.app x').1 t:=by
      unfold rN.app bU oF;cases hq:s.o.dst with
      |none=>exact h
      |some d=>
        by_cases e:t=d
        · simp only[if_pos e]
        · simp only[if_neg e];exact h
    by_cases hD:D k=D' k
    · rw[<-hD]
      split
      · exact hboth
      · exact h
    · have hne:=hd 0 s rfl hD
      split<;>split
      · exact hboth
      · rw[hsame _ hne];exact h
      · rw[hsame _ hne];exact h
      · exact h
theorem uT(D:Nat->Bool):∀(l:List rN) (k:Nat) (x:aD×aC),(cX D k l x).2.length=x.2.length
  | [],_,_=>rfl
  |s::l,k,x=>by
    simp only[cX];rw[uT D l]
    split
    · exact uZ _ _
    · rfl
theorem zZ{D D':Nat->Bool}{id:Nat}:∀(l:List rN) (k:Nat) (x x':aD×aC),x.2.length=x'.2.length->x.2[id]? =x'.2[id]? ->(∀j s,l[j]? =some s->D (k+j)≠D' (k+j)->∀e∈s.eff,e.1≠id)->(cX D k l x).2[id]? =(cX D' k l x').2[id]?
  | [],_,_,_,_,h,_=>h
  |s::l,k,x,x',hl,h,hd=>by
    simp only[cX];have hll:(if D k then s.app x else x).2.length=(if D' k then s.app x' else x').2.length:=by
      have e1:∀y:aD×aC,(s.app y).2.length=y.2.length:=λy=>uZ _ _
      split<;>split<;>simp only[e1,hl]
    refine zZ l (k+1) _ _ hll ?_ (λj s' hj hD=>hd (j+1) s' (by simpa using hj) (by rw[show k+(j+1)=k+1+j by omega];exact hD))
    by_cases hD:D k=D' k
    · rw[<-hD]
      split
      · exact uQ _ _ _ _ hl h
      · exact h
    · have hne:=hd 0 s rfl hD
      have e1:∀y:aD×aC,(s.app y).2[id]? =y.2[id]? :=λy=>BI _ _ _ hne
      split<;>split<;>simp only[e1,h]
def eM(ops:Array Oper)(listed:Array Bool)(i:Nat):Bool:=
  !listed.getD i true&&((ops[i]?).map (·.after.all λe=> !Region.binds .any e||listed.getD e.on false)).getD false
def oQ(ops:Array Oper):Nat->Nat->Array Bool->List Nat
  |0,_,_=> []
  |fuel+1,t,listed=>
    match((List.range ops.size).filter (eM ops listed))[t%((List.range ops.size).filter (eM ops listed)).length]? with
    |some i=>i::oQ ops fuel (t/ ((List.range ops.size).filter (eM ops listed)).length) (listed.setIfInBounds i true)
    |none=> []
theorem aCd(ops:Array Oper):∀(fuel t:Nat) (listed:Array Bool) (acc:List Nat),Region.linearise.go .any ops fuel t listed acc=acc.reverse++oQ ops fuel t listed
  |0,t,listed,acc=>by simp[Region.linearise.go,oQ]
  |fuel+1,t,listed,acc=>by
    unfold Region.linearise.go oQ;show(match((List.range ops.size).filter (eM ops listed))[t%((List.range ops.size).filter (eM ops listed)).length]? with
      |some i=>_
      |none=>_)=_
    split
    · rename_i i hi
      have:=aCd ops fuel (t/ ((List.range ops.size).filter (eM ops listed)).length) (listed.setIfInBounds i true) (i::acc);rw[show((i::acc).reverse++oQ ops fuel (t/ ((List.range ops.size).filter (eM ops listed)).length) (listed.setIfInBounds i true))=acc.reverse++i::oQ ops fuel (t/ ((List.range ops.size).filter (eM ops listed)).length) (listed.setIfInBounds i true)by simp]at this;exact this
    · simp
def lH(l:List Oper):Bool:=(l.zipIdx.all λ(o,i)=>o.after.toList.all λe=> !Region.binds .any e||decide (e.on<i))
theorem lV{l:List Oper}(h:lH l=true){i:Nat}{o:Oper}(ho:l[i]? =some o){e:Edge}(he:e∈o.after.toList)(hb:Region.binds .any e=true):e.on<i:=by
  unfold lH at h;rw[aTr]at h;have hm:(o,i)∈l.zipIdx:=by
    rw[List.mem_zipIdx_iff_getElem?];exact ho
  have:=h _ hm;simp only[aTr]at this;have:=this e he;rw[hb]at this;simpa using this
def mS(l:List Oper)(bm:List Nat):Bool:=
  l.zipIdx.all λ(o,j)=>l.zipIdx.all λ(o',i)=>
    !decide (i<j)||(bm.getD j 0).testBit i||
      (match o'.dst with
       |some d=> !(o.dst==some d)&& !(rF l o).contains d
       |none=>true)&&
      (match o.dst with
       |some d=> !(rF l o').contains d
       |none=>true)
theorem fY{l:List Oper}{bm:List Nat}(h:mS l bm=true){i j:Nat}(hij:i<j){o o':Oper}(ho':l[i]? =some o')(ho:l[j]? =some o)(hb:(bm.getD j 0).testBit i=false):(o'.dst=none\/o.dst=none\/o'.dst≠o.dst)/\(∀t∈rF l o,o'.dst≠some t)/\(∀t∈rF l o',o.dst≠some t):=by
  unfold mS at h;rw[aTr]at h;have h1:=h (o,j) (by rw[List.mem_zipIdx_iff_getElem?];exact ho);simp only[aTr]at h1;have h2:=h1 (o',i) (by rw[List.mem_zipIdx_iff_getElem?];exact ho');simp only[hij,decide_true,aTt,hb,Bool.false_or,aSe]at h2;obtain⟨h3,h4⟩:=h2;refine⟨?_, ?_, ?_⟩
  · cases hq:o'.dst with
    |none=>exact .inl rfl
    |some d=>
      rw[hq]at h3;simp only[aSe,aSf,beq_eq_false_iff_ne,ne_eq]at h3;exact .inr (.inr λe=>h3.1 e.symm)
  · intro t ht e
    rw[e]at h3;simp only[aSe,aSf]at h3;have:=h3.2;rw[aTz.2 ht]at this;cases this
  · intro t ht e
    rw[e]at h4;simp only[aSf]at h4;rw[aTz.2 ht]at h4;cases h4
theorem Bf.closed{l:List Oper}{listed:Nat->Bool}(h:∀j o,l[j]? =some o->listed j=true->∀e∈o.after.toList,Region.binds .any e=true->listed e.on=true){i j:Nat}(hb:Bf l i j)(hj:listed j=true):listed i=true:=by
 induction hb with
 |edge ho he hbd=>exact h _ _ ho hj _ he hbd
 |trans _ _ ih1 ih2=>exact ih1 (ih2 hj)
theorem Bf.pre{l:List Oper}{listed:Nat->Bool}{i:Nat}(h:∀j o,l[j]? =some o->(listed j=true\/j=i)->∀e∈o.after.toList,Region.binds .any e=true->listed e.on=true){k:Nat}(hb:Bf l k i):listed k=true:=by
 have hcl:∀j o,l[j]? =some o->listed j=true->∀e∈o.after.toList,Region.binds .any e=true->listed e.on=true:=λj o ho hj=>h j o ho (.inl hj);have key:∀ {k j:Nat},Bf l k j->j=i->listed k=true:=by
  intro k j hb
  induction hb with
  |edge ho he hbd=>rintro rfl;exact h _ _ ho (.inr rfl) _ he hbd
  |trans h1 _ ih1 ih2=>intro e;exact h1.closed hcl (ih2 e)
 exact key hb rfl
structure aGv(P:Program)(N:Nat)(ops:Array Oper)(S:List rN)(x:aD×aC):Prop where
 ops_eq:S.map (·.o)=ops.toList
 rob:∀i s,S[i]? =some s->Rob P N ops s.o (cX (λj=>decide (j<i)) 0 S x).1 (cX (λj=>decide (j<i)) 0 S x).2 s.v s.eff s.rd
 own:∀s∈S,∀e∈s.eff,e.1∈s.rd
 apart:∀i j s s',i<j->S[i]? =some s->S[j]? =some s'->((cL ops.toList).getD j 0).testBit i=true\/((∀e∈s.eff,e.1∉s'.rd)/\∀e∈s'.eff,e.1∉s.rd)
section
variable{P:Program}{N nb:Nat}{ops:Array Oper}{S:List rN}{x:aD×aC}{Q:dG}
theorem FE{P:Program}{Q:Exit->Act->World->Prop}{a:Act}{w:World}{rest:List Nat}{i:Nat}{o:Oper}(ho:ops[i]? =some o)
  (h:if Region.wanted o (yielded ops a.tmps)then o.wp P a w (wpOps P ops Q rest) Q else wpOps P ops Q rest (a.put o.dst undef) w):wpOps P ops Q (i::rest) a w:=by
 unfold wpOps;simp only[ho]
 split
 ·rename_i hw;rw[if_pos hw]at h;exact .inl h
 ·rename_i hw;rw[if_neg hw]at h;exact h
theorem WK(hb:lH ops.toList=true)(hs:mS ops.toList (cL ops.toList)=true)(tr:aGv P N ops S x)(hQ:Q .normal (cX (λ_=>true) 0 S x).1 (cX (λ_=>true) 0 S x).2)(E0:aE):
  ∀(fuel t:Nat) (listed:Array Bool) (E:aE) (a:Act),listed.size=ops.size->((List.range ops.size).filter λi=> !listed.getD i true).length<=fuel->
   (∀j o,ops.toList[j]? =some o->listed.getD j false=true->∀e∈o.after.toList,Region.binds .any e=true->listed.getD e.on false=true)->
   E0.leN nb E->E.Ok->E.H=(cX (λj=>listed.getD j false) 0 S x).2->eR E.view N a (cX (λj=>listed.getD j false) 0 S x).1->wpOps P ops (BR N nb E0 Q) (oQ ops fuel t listed) a E.w:=by
 have hlen:S.length=ops.size:=by rw[<-aSs,<-tr.ops_eq];simp
 have hop:∀(i:Nat) (s:rN),S[i]? =some s->ops.toList[i]? =some s.o:=by
  intro i s h;rw[<-tr.ops_eq,aTb,h];rfl
 intro fuel
 induction fuel with
 |zero=>
  intro t listed E a hsz hcnt hcl hle ho hH ht;have hall:∀j,j<S.length->listed.getD j false=true:=by
   intro j hj;cases hq:listed.getD j false with
   |true=>rfl
   |false=>
    have hm:j∈(List.range ops.size).filter λi=> !listed.getD i true:=by
     rw[List.mem_filter];refine⟨aT0.2 z8, ?_⟩;rw[aSo,aSt z8]at hq⊢;simpa using hq
    have:=List.length_pos_of_mem hm;omega
  rw[gW (D':=λ_=>true) S 0 x (λj hj=>by simpa using hall j hj)]at hH ht;exact⟨E,_,rfl,hle,ho,ht,hH▸hQ⟩
 |succ fuel ih=>
  intro t listed E a hsz hcnt hcl hle ho hH ht;unfold oQ
  by_cases hdone:∀j,j<ops.size->listed.getD j false=true
  ·have hrs:(List.range ops.size).filter (eM ops listed)= []:=by
    rw[List.filter_eq_nil_iff];intro j hj;rw[aT0]at hj;have:=hdone j hj;unfold eM;rw[aSo,aSt z8]at this⊢;simp only[aSu]at this⊢;simp[this]
   rw[hrs];rw[gW (D':=λ_=>true) S 0 x (λj hj=>by simpa using hdone j z8)]at hH ht;exact⟨E,_,rfl,hle,ho,ht,hH▸hQ⟩
  ·
   have hex:∃j,j<ops.size/\listed.getD j false=false:=by
    apply Classical.byContradiction;intro hno;apply hdone;intro j hj;cases hq:listed.getD j false with
    |true=>rfl
    |false=>exact(hno ⟨j,hj,hq⟩).elim
   obtain⟨j0,⟨hj0,hl0⟩,hmin⟩:=sK hex;have zF:∀(j:Nat),j<ops.size->∀b c:Bool,listed.getD j b=listed.getD j c:=by
    intro j hj b c;rw[aSo,aSo,aSt z8];rfl
   have hready:eM ops listed j0=true:=by
    unfold eM;rw[zF j0 hj0 true false,hl0,aSt hj0];simp only[aTp,Bool.true_and,aS1,aSu];rw[Array.all_eq_true'];intro e he;cases hbd:Region.binds .any e with
    |false=>rfl
    |true=>
     have hon:=lV hb (i:=j0) (o:=ops[j0]) (by simp[hj0]) (e:=e) (by simpa using he) hbd;simp only[aTt,Bool.false_or];cases hq:listed.getD e.on false with
     |true=>rfl
     |false=>have:=hmin e.on ⟨z8,hq⟩;omega
   have hne:(List.range ops.size).filter (eM ops listed)≠ []:=by
    intro hnil;have:j0∈(List.range ops.size).filter (eM ops listed):=List.mem_filter.2 ⟨aT0.2 hj0,hready⟩;rw[hnil]at this;cases this
   have hpos:0<((List.range ops.size).filter (eM ops listed)).length:=List.length_pos_iff.2 hne;have hlt:=Nat.mod_lt t hpos;rw[aTd hlt];simp only;generalize hi:((List.range ops.size).filter (eM ops listed))[t%((List.range ops.size).filter (eM ops listed)).length]=i;have him:i∈(List.range ops.size).filter (eM ops listed):=by rw[<-hi];exact aTk hlt
   obtain⟨him1,him2⟩:=List.mem_filter.1 him;rw[aT0]at him1;unfold eM at him2;rw[zF i him1 true false,aSt him1]at him2;simp only[aSe,aSf,aS1,aSu]at him2;obtain⟨hnl,hpre⟩:=him2;rw[Array.all_eq_true']at hpre;obtain⟨s,hs_i⟩:∃s,S[i]? =some s:=⟨S[i]'z8,aTd _⟩;have hso:=hop i s hs_i;have hop_i:ops[i]? =some s.o:=by rw[aTf]at hso;exact hso
   have hso':ops[i]=s.o:=by rw[aSt him1]at hop_i;simpa using hop_i
   have hprei:∀e∈s.o.after.toList,Region.binds .any e=true->listed.getD e.on false=true:=by
    intro e he hbd;have:=hpre e (by rw[hso'];simpa using he);rw[hbd]at this;simpa using this
   have hBfD:∀ {k j:Nat},Bf ops.toList k j->listed.getD j false=true->listed.getD k false=true:=λhbf hj=>hbf.closed (listed:=λj=>listed.getD j false) hcl hj;have hBfI:∀ {k:Nat},Bf ops.toList k i->listed.getD k false=true:=λhbf=>Bf.pre (listed:=λj=>listed.getD j false) (i:=i) (λj o hoo hj e he hbd=>by
    rcases hj with hj|rfl
    ·exact hcl j o hoo hj e he hbd
    ·rw[hso]at hoo;cases hoo;exact hprei e he hbd) hbf
   have hbmB:∀ {k j:Nat},((cL ops.toList).getD j 0).testBit k=true->Bf ops.toList k j:=λh=>(oU ops.toList _ ops.toList [] rfl z6).2 _ _ h;have hun1:∀j,i<j->listed.getD j false=true->((cL ops.toList).getD j 0).testBit i=false:=by
    intro j hij hj;cases hq:((cL ops.toList).getD j 0).testBit i with
    |false=>rfl
    |true=>have:=hBfD (hbmB hq) hj;rw[hnl]at this;cases this
   have hun2:∀k,k<i->listed.getD k false=false->((cL ops.toList).getD i 0).testBit k=false:=by
    intro k hki hk;cases hq:((cL ops.toList).getD i 0).testBit k with
    |false=>rfl
    |true=>have:=hBfI (hbmB hq);rw[hk]at this;cases this
   let D:Nat->Bool:=λj=>listed.getD j false
   have hslot:∀t∈rF ops.toList s.o,(cX D 0 S x).1 t=(cX (λj=>decide (j<i)) 0 S x).1 t:=by
    intro t htm;refine AK S 0 x x rfl (λj s' hj hD=> ?_);rw[aTh]at hD;have hoj:=hop j s' hj
    by_cases hji:j<i
    ·have hDj:D j=false:=by
      cases hq:D j with
      |false=>rfl
      |true=>rw[hq]at hD;simp[hji]at hD
     exact(fY hs hji hoj hso (hun2 j hji hDj)).2.1 t htm
    ·have hDj:D j=true:=by
      cases hq:D j with
      |true=>rfl
      |false=>rw[hq]at hD;simp[hji]at hD
     have hne:j≠i:=by rintro rfl;rw[show D j=false from hnl]at hDj;cases hDj
     exact(fY hs (by omega:i<j) hso hoj (hun1 j z8 hDj)).2.2 t htm
   have hheap:∀id∈s.rd,(cX D 0 S x).2[id]? =(cX (λj=>decide (j<i)) 0 S x).2[id]? :=by
    intro id hid;refine zZ S 0 x x rfl rfl (λj s' hj hD e he heq=> ?_);rw[aTh]at hD
    by_cases hji:j<i
    ·have hDj:D j=false:=by
      cases hq:D j with
      |false=>rfl
      |true=>rw[hq]at hD;simp[hji]at hD
     rcases tr.apart j i s' s hji hj hs_i with h|h
     ·rw[hun2 j hji hDj]at h;cases h
     ·exact h.1 e he (heq▸hid)
    ·have hDj:D j=true:=by
      cases hq:D j with
      |true=>rfl
      |false=>rw[hq]at hD;simp[hji]at hD
     have hne:j≠i:=by rintro rfl;rw[show D j=false from hnl]at hDj;cases hDj
     rcases tr.apart i j s s' z8 hs_i hj with h|h
     ·rw[hun1 j z8 hDj]at h;cases h
     ·exact h.2 e he (heq▸hid)
   have hlenr:(cX D 0 S x).2.length=(cX (λj=>decide (j<i)) 0 S x).2.length:=by rw[uT,uT]
   have hins:cX (λj=>(listed.setIfInBounds i true).getD j false) 0 S x=s.app (cX D 0 S x):=by
    rw[<-uK D (i:=i) hnl S 0 x s (aTn _) (by simpa using hs_i)]
    ·refine gW S 0 x (λj hj=> ?_);rw[aTh];simp only[D];rw[aSo,aSo]
     by_cases e:j=i
     ·subst e;rw[aSp z8];simp
     ·rw[aSq (λq=>e q.symm)];have:(j==i)=false:=by simp[e]
      rw[this];simp
    ·intro j s' hij hj hDj;rw[aTh]at hij hDj;have hb':=hun1 j hij hDj;refine⟨(fY hs hij hso (hop j s' hj) hb').1,λe he y hy heq=> ?_⟩;rcases tr.apart i j s s' hij hs_i hj with h|h
     ·rw[hb']at h;cases h
     ·exact h.1 e he (heq▸tr.own s' (List.mem_of_getElem? hj) y hy)
   have hcnt':((List.range ops.size).filter λk=> !(listed.setIfInBounds i true).getD k true).length<=fuel:=by
    have hsub:((List.range ops.size).filter λk=> !(listed.setIfInBounds i true).getD k true).length<((List.range ops.size).filter λk=> !listed.getD k true).length:=by
     have e1:(List.range ops.size).filter (λk=> !(listed.setIfInBounds i true).getD k true)=((List.range ops.size).filter λk=> !listed.getD k true).filter λk=>k != i:=by
      rw[List.filter_filter];apply List.filter_congr;intro k hk;rw[aSo,aSo]
      by_cases e:k=i
      ·subst e;rw[aSp z8];simp
      ·rw[aSq (λq=>e q.symm)];simp[e]
     rw[e1];refine List.length_filter_lt_length_iff_exists.2 ⟨i, ?_,z6⟩;rw[List.mem_filter];exact⟨aT0.2 him1,by rw[zF i him1 true false,hnl];rfl⟩
    omega
   have hcl':∀j o,ops.toList[j]? =some o->(listed.setIfInBounds i true).getD j false=true->∀e∈o.after.toList,Region.binds .any e=true->(listed.setIfInBounds i true).getD e.on false=true:=by
    intro j o hoo hj e he hbd;have hup:∀k,listed.getD k false=true->(listed.setIfInBounds i true).getD k false=true:=by
     intro k hk;rw[aSo]at hk⊢
     by_cases q:k=i
     ·subst q;rw[aSp z8];rfl
     ·rw[aSq (λz=>q z.symm)];exact hk
    apply hup
    by_cases q:j=i
    ·subst q;rw[hso]at hoo;cases hoo;exact hprei e he hbd
    ·rw[aSo,aSq (λz=>q z.symm),<-aSo]at hj;exact hcl j o hoo hj e he hbd
   have hrob:=tr.rob i s hs_i (cX D 0 S x).1 (cX D 0 S x).2 hslot hheap hlenr E a ho hH ht;refine FE hop_i ?_;rcases hrob with⟨hw,he0,hv0⟩| ⟨hw,hgo⟩
   ·rw[if_neg (by rw[hw];simp)];refine ih _ _ E _ (by simp[hsz]) hcnt' hcl' hle ho ?_ ?_
    ·rw[hins];simp only[rN.app,he0,lQ,List.foldl_nil];exact hH
    ·rw[hins];simp only[rN.app];rcases hv0 with e|e
     ·rw[e];exact ht.put s.o.dst (.junk _)
     ·rw[e];exact ht.put s.o.dst (.tup _ _ rfl (λi h=>absurd h z6))
   ·rw[if_pos hw];refine hgo _ _ (λE' val hle' ho' hH' hv'=> ?_);refine ih _ _ E' _ (by simp[hsz]) hcnt' hcl' (hle.trans (hle'.leN nb)) ho' ?_ ?_
    ·rw[hins];simp only[rN.app];exact hH'
    ·rw[hins];simp only[rN.app];exact(ht.mono hle'.view).put s.o.dst hv'
end
theorem nS(D:Nat->Bool):∀(l1 l2:List rN) (k:Nat) (x:aD×aC),cX D k (l1++l2) x=cX D (k+l1.length) l2 (cX D k l1 x)
 | [],l2,k,x=>rfl
 |s::l1,l2,k,x=>by
  simp only[aSg,cX];rw[nS D l1 l2 (k+1)];congr 1;simp only[aS2];omega
theorem sF{D:Nat->Bool}:∀(l:List rN) (k:Nat) (x:aD×aC),(∀j,j<l.length->D (k+j)=false)->cX D k l x=x
 | [],_,_,_=>rfl
 |s::l,k,x,h=>by
  simp only[cX];have h0:D k=false:=by simpa using h 0 z6
  rw[h0];exact sF l (k+1) x λj hj=>by have:=h (j+1) (by simpa using hj);rw[show k+(j+1)=k+1+j by omega]at this;exact this
abbrev fD:=List (Nat×List Nat×List Nat)
def iI(P:Program)(N:Nat)(ops:Array Oper)(Q:dG):Nat->List Oper->fD->aD->aC->Prop
 |_,[],_,T,H=>Q .normal T H
 |k,o::l,prev,T,H=>∃v eff rd,Rob P N ops o T H v eff rd/\(∀e∈eff,e.1∈rd)/\
   (∀p∈prev,((cL ops.toList).getD k 0).testBit p.1=true\/((∀id∈p.2.2,id∉rd)/\∀e∈eff,e.1∉p.2.1))/\
   iI P N ops Q (k+1) l (prev++ [(k,rd,eff.map (·.1))]) (bU T o.dst v) (lQ H eff)
section
variable{P:Program}{N nb:Nat}{ops:Array Oper}{Q:dG}
theorem FD{x:aD×aC}:∀(l:List Oper) (k:Nat) (prev:fD) (S0:List rN),S0.length=k->S0.map (·.o)++l=ops.toList->
  (∀(i:Nat) (s:rN),S0[i]? =some s->Rob P N ops s.o (cX (λj=>decide (j<i)) 0 S0 x).1 (cX (λj=>decide (j<i)) 0 S0 x).2 s.v s.eff s.rd)->
  (∀s∈S0,∀e∈s.eff,e.1∈s.rd)->
  (∀(i j:Nat) (s s':rN),i<j->S0[i]? =some s->S0[j]? =some s'->((cL ops.toList).getD j 0).testBit i=true\/((∀e∈s.eff,e.1∉s'.rd)/\∀e∈s'.eff,e.1∉s.rd))->
  (∀(i:Nat) (s:rN),S0[i]? =some s->(i,s.rd,s.eff.map (·.1))∈prev)->
  iI P N ops Q k l prev (cX (λ_=>true) 0 S0 x).1 (cX (λ_=>true) 0 S0 x).2->
  ∃S,aGv P N ops S x/\Q .normal (cX (λ_=>true) 0 S x).1 (cX (λ_=>true) 0 S x).2
 | [],k,prev,S0,hk,ho,h1,h2,h3,h4,hd=>⟨S0,⟨by simpa using ho,h1,h2,h3⟩,hd⟩
 |o::l,k,prev,S0,hk,ho,h1,h2,h3,h4,hd=>by
  obtain⟨v,eff,rd,hr,how,hap,hd'⟩:=hd
  let s:rN:=⟨o,v,eff,rd⟩
  have hpre:∀i,i<=k->cX (λj=>decide (j<i)) 0 (S0++ [s]) x=cX (λj=>decide (j<i)) 0 S0 x:=by
   intro i hi;rw[nS];exact sF _ _ _ (λj hj=>by simp at hj;subst hj;simp;omega)
  have hfull:cX (λj=>decide (j<k)) 0 S0 x=cX (λ_=>true) 0 S0 x:=gW S0 0 x (λj hj=>by simp;omega);have hext:cX (λ_=>true) 0 (S0++ [s]) x=s.app (cX (λ_=>true) 0 S0 x):=by
   rw[nS];rfl
  refine FD l (k+1) (prev++ [(k,rd,eff.map (·.1))]) (S0++ [s]) (by simp[hk]) (by simpa using ho) ?_ ?_ ?_ ?_ ?_
  ·intro i s' hs'
   by_cases hi:i<k
   ·rw[aSv z8]at hs';rw[hpre i z8];exact h1 i s' hs'
   ·have hik:i=k:=by have:=lG hs';simp[hk]at this;omega
    subst hik;rw[aSw z8,hk]at hs';simp at hs';subst hs';rw[hpre i (aSl _),hfull];exact hr
  ·intro s' hs';rcases aTs.1 hs' with hs'|hs'
   ·exact h2 s' hs'
   ·simp at hs';subst hs';exact how
  ·intro i j s1 s2 hij hs1 hs2;have hi:i<k:=by have:=lG hs2;simp[hk]at this;omega
   rw[aSv z8]at hs1
   by_cases hj:j<k
   ·rw[aSv z8]at hs2;exact h3 i j s1 s2 hij hs1 hs2
   ·have hjk:j=k:=by have:=lG hs2;simp[hk]at this;omega
    subst hjk;rw[aSw z8,hk]at hs2;simp at hs2;subst hs2;rcases hap _ (h4 i s1 hs1)with h|h
    ·exact .inl h
    ·refine .inr ⟨λe he=>h.1 _ (aTq.2 ⟨e,he,rfl⟩),h.2⟩
  ·intro i s' hs'
   by_cases hi:i<k
   ·rw[aSv z8]at hs';exact aTs.2 (.inl (h4 i s' hs'))
   ·have hik:i=k:=by have:=lG hs';simp[hk]at this;omega
    subst hik;rw[aSw z8,hk]at hs';simp at hs';subst hs';exact aTs.2 (.inr (by simp[s]))
  ·rw[hext];exact hd'
theorem aDx{c:Code}{T:aD}{H:aC}(h:eA P N nb c Q T (H++ [.unborn])):eA P N nb c Q T H:=by
 intro E a ho hH ht;have:=h E.ext a ho.ext (by simp[aE.ext,hH]) (ht.mono E.ext_view_le);exact wp_mono this λe a w hl=>eP (E.ext_le.leN nb) (λ_ _ _ q=>q) hl
theorem CT{c:Code}{T:aD}:∀(m:Nat) {H:aC},eA P N nb c Q T (H++aS6 m .unborn)->eA P N nb c Q T H
 |0,H,h=>by simpa using h
 |m+1,H,h=>aDx (CT m (by simpa[List.replicate_succ]using h))
def mP(P:Program)(l:List Oper):Bool:=P.follows .mixedOrders&&lH l&&mS l (cL l)
theorem lU{id:Nat}{ops:Array Oper}{T:aD}{H:aC}(m:Nat)(hok:mP P ops.toList=true)(h:iI P N ops Q 0 ops.toList [] T (H++aS6 m .unborn)):eA P N nb (.region id ops true) Q T H:=by
 refine CT m ?_;unfold mP at hok;simp only[aSe]at hok;obtain⟨S,tr,hQ⟩:=FD (x:=(T,H++aS6 m .unborn)) ops.toList 0 [] [] rfl z6 (λi s h=>by simp at h) (λs h=>by simp at h) (λi j s s' _ h=>by simp at h) (λi s h=>by simp at h) h;intro E a ho hH ht;refine wp_region_draw λt=> ?_;rw[hok.1.1];simp only[Region.schedule,Bool.true_or,if_true,Region.linearise,aCd,List.reverse_nil,aT1];have hrun:cX (λj=>(Array.replicate ops.size false).getD j false) 0 S (T,H++aS6 m .unborn)=(T,H++aS6 m .unborn):=by
  refine sF S 0 _ (λj hj=> ?_);rw[aSo]
  by_cases h:0+j<ops.size
  ·rw[aSt (by simpa using h)];simp
  ·rw[Array.getElem?_eq_none (by simp;omega)];rfl
 refine WK hok.1.2 hok.2 tr hQ E ops.size t (Array.replicate ops.size false) E.drew a z6 ?_ ?_ (E.drew_le.leN nb) ho.drew ?_ ?_
 ·refine aSm (List.length_filter_le _ _) z6
 ·intro j o hj hl;rw[aSo]at hl
  by_cases h:j<ops.size
  ·rw[aSt (by simpa using h)]at hl;simp at hl
  ·rw[Array.getElem?_eq_none (by simp;omega)]at hl;cases hl
 ·rw[hrun];exact hH
 ·rw[hrun];exact ht
theorem yG{fl:List (Nat×TI)}{T T':aD}:∀(ps:List (Nat×Operand)) (cs:List PV),(∀x∈ps,bT T' x.2=bT T x.2)->oE fl T' cs ps=oE fl T cs ps
 | [],cs,_=>rfl
 | (f,x)::ps,cs,h=>by
  unfold oE;rw[h (f,x) z6]
  split
  ·split
   ·exact yG ps _ (λy hy=>h y (by simp[hy]))
   ·rfl
  ·rfl
theorem nK{i:TI}{T T':aD}:∀(ps:List (Nat×Operand)) (cs:List PV),(∀x∈ps,bT T' x.2=bT T x.2)->fH i T' cs ps=fH i T cs ps
 | [],cs,_=>rfl
 | (f,x)::ps,cs,h=>by
  unfold fH;rw[h (f,x) z6]
  split
  ·exact nK ps _ (λy hy=>h y (by simp[hy]))
  ·rfl
theorem BO{T T':aD}{x:Option Operand}(h:∀y,x=some y->bT T' y=bT T y)(n d:Nat):kW T' x n d=kW T x n d:=by
 cases x with
 |none=>rfl
 |some y=>simp only[kW,h y rfl]
theorem JM{T T':aD}{t:TypeId}{x:PV}{lo hi mx:Option Operand}(h1:∀y,lo=some y->bT T' y=bT T y)(h2:∀y,hi=some y->bT T' y=bT T y)(h3:∀y,mx=some y->bT T' y=bT T y):
  kO P T' t x lo hi mx=kO P T t x lo hi mx:=by
 unfold kO;simp only[λn d=>BO h1 n d,λn d=>BO h2 n d]
 split
 ·rfl
 ·split
  ·split
   ·cases mx with
    |none=>rfl
    |some m=>
     cases hi with
     |none=>rfl
     |some h=>simp only[h3 m rfl,h2 h rfl]
   ·rfl
  ·rfl
 ·rfl
theorem EM{fresh:Nat}{T T':aD}{H:aC}{b:Builtin}{xs:List Operand}{ts:List TypeId}(h:∀x∈xs,bT T' x=bT T x):dX P fresh T' H b xs ts=dX P fresh T H b xs ts:=by
 unfold dX
 split
 ·simp only[h _ (aT2.2 rfl)]
 ·rename_i x y;simp only[h x z6,h y z6]
 ·rename_i x y;simp only[h x z6,h y z6]
 ·rename_i x y t u;simp only[h x z6,h y z6]
 ·rfl
theorem IL{mt:Bool}{fresh:Nat}{T T':aD}{H:aC}{o:Op}(h:∀x∈o.operands.toList,bT T' x=bT T x):eU P mt fresh T' H o=eU P mt fresh T H o:=by
 cases o with
 |pick c a b=>simp only[eU,h c (by simp[Op.operands]),h a (by simp[Op.operands]),h b (by simp[Op.operands])]
 |build t ps=>
  simp only[eU];congr 1;funext fl;congr 1;funext z
  split
  ·rfl
  ·rw[yG ps.toList z.cells (λx hx=>h x.2 (by simp only[Op.operands];exact aTq.2 ⟨x,hx,rfl⟩))]
 |buildSlice t n ps=>
  simp only[eU];congr 1;funext ei;congr 1;funext z
  split
  ·rw[nK ps.toList _ (λx hx=>h x.2 (by simp only[Op.operands];exact aTq.2 ⟨x,hx,rfl⟩))]
  ·rfl
 |makeFunc f first caps=>
  simp only[eU];have e1:(first.toList.map λx=>(bT T' x).drop1)=first.toList.map λx=>(bT T x).drop1:=List.map_congr_left λx hx=>by rw[h x (by simp only[Op.operands];simp;left;simpa using hx)]
  have e2:(caps.toList.map λx=>(bT T' x).drop1)=caps.toList.map λx=>(bT T x).drop1:=List.map_congr_left λx hx=>by rw[h x (by simp only[Op.operands];simp;right;simpa using hx)]
  rw[e1,e2]
 |slice t x lo hi mx=>
  simp only[eU];rw[h x (by simp[Op.operands]),JM (λy e=>h y (by subst e;simp[Op.operands])) (λy e=>h y (by subst e;simp[Op.operands])) (λy e=>h y (by subst e;simp[Op.operands]))]
 |call c=>
  simp only[eU]
  split
  ·rename_i b hb;exact EM (λx hx=>h x (by simp only[Op.operands,Call.operands,hb];simpa using hx))
  ·rfl
 |store t a v=>simp only[eU,h a (by simp[Op.operands]),h v (by simp[Op.operands])]
 |binOp op t a v u=>simp only[eU,h a (by simp[Op.operands]),h v (by simp[Op.operands])]
 |indexAddr t a v=>simp only[eU,h a (by simp[Op.operands]),h v (by simp[Op.operands])]
 |index t a v=>simp only[eU,h a (by simp[Op.operands]),h v (by simp[Op.operands])]
 |makeSlice t a v=>simp only[eU,h a (by simp[Op.operands]),h v (by simp[Op.operands])]
 |lookup t a v ok=>simp only[eU,h a (by simp[Op.operands]),h v (by simp[Op.operands])]
 |mapUpdate t a v y=>simp only[eU,h a (by simp[Op.operands]),h v (by simp[Op.operands]),h y (by simp[Op.operands])]
 |makeMap t r=>cases r<;>rfl
 |move x=>simp only[eU,h x (by simp[Op.operands])]
 |assign x=>simp only[eU,h x (by simp[Op.operands])]
 |box t x=>simp only[eU,h x (by simp[Op.operands])]
 |load t x=>simp only[eU,h x (by simp[Op.operands])]
 |nilCheck x=>simp only[eU,h x (by simp[Op.operands])]
 |unOp t u x=>simp only[eU,h x (by simp[Op.operands])]
 |convert t u x=>simp only[eU,h x (by simp[Op.operands])]
 |fieldAddr t x u=>simp only[eU,h x (by simp[Op.operands])]
 |field t x u=>simp only[eU,h x (by simp[Op.operands])]
 |extract x u=>simp only[eU,h x (by simp[Op.operands])]
 |_=>rfl
def mU(T:aD):Op->List Nat
 | .load _ x=>match bT T x with| .optr id _=> [id]|_=> []
 | .store _ x _=>match bT T x with| .optr id _=> [id]|_=> []
 | .lookup _ x _ _=>match bT T x with| .mapp id=> [id]|_=> []
 | .mapUpdate _ x _ _=>match bT T x with| .mapp id=> [id]|_=> []
 | .call c=>match c.callee with
  | .builtin .append=>match c.args.toList with
   |x::_=>match bT T x with| .slice _ (.tok id)=> [id]|_=> []
   | []=> []
  |_=> []
 |_=> []
theorem ZO{mt:Bool}{fresh:Nat}{T:aD}{H H':aC}{o:Op}(h:∀id∈mU T o,H'[id]? =H[id]?):eU P mt fresh T H' o=eU P mt fresh T H o:=by
 cases o with
 |load t x=>
  simp only[eU];have:∀i,iQ i H' (bT T x)=iQ i H (bT T x):=by
   intro i;unfold iQ
   split
   ·rename_i id off hq;rw[h id (by simp[mU,hq])]
   ·rfl
   ·rfl
  simp only[this]
 |lookup t x k ok=>
  simp only[eU];have:lC P H' t (bT T x) (bT T k) ok=lC P H t (bT T x) (bT T k) ok:=by
   unfold lC
   split
   ·rename_i id n hq _;rw[h id (by simp[mU,hq])]
   ·rfl
  rw[this]
 |mapUpdate t x k y=>
  simp only[eU];have:mH P H' t (bT T x) (bT T k) (bT T y)=mH P H t (bT T x) (bT T k) (bT T y):=by
   unfold mH
   split
   ·rename_i id n hq _;rw[h id (by simp[mU,hq])]
   ·rfl
  rw[this]
 |makeMap t r=>cases r<;>rfl
 |store t x y=>
  simp only[eU];have:∀i,mY i H' (bT T x) (bT T y)=mY i H (bT T x) (bT T y):=by
   intro i;unfold mY
   split
   ·rename_i id off hq;rw[h id (by simp[mU,hq])]
   ·rfl
  simp only[this]
 |call c=>
  simp only[eU]
  split
  ·rename_i b hb;unfold dX
   split
   ·rfl
   ·rfl
   ·rfl
   ·rename_i x y t u hxs hts;have:∀i,dQ i fresh H' (bT T x) (bT T y)=dQ i fresh H (bT T x) (bT T y):=by
     intro i;unfold dQ
     split
     ·rename_i es tl xs tlx hq1 hq2
      split
      ·rfl
      ·split
       ·split
        ·rfl
        ·rename_i id;rw[h id (by simp[mU,hb,hxs,hq1])]
        ·rfl
       ·rfl
     ·rfl
    simp only[this]
   ·rfl
  ·rfl
 |_=>rfl
def DN(e:qD):List (Nat×AObj):=e.toList
theorem aF8(e:qD)(H:aC):e.app H=lQ H (DN e):=by cases e<;>rfl
theorem UG{l:List Oper}{o:Oper}{t:Nat}(h:Operand.tmp t∈o.op.operands.toList):t∈rF l o:=by
 unfold rF;refine aTs.2 (.inl ?_);rw[List.mem_filterMap];exact⟨_,h,rfl⟩
theorem mO{l:List Oper}{o:Oper}{T T':aD}(h:∀t∈rF l o,T' t=T t):∀x∈o.op.operands.toList,bT T' x=bT T x:=by
 intro x hx;cases x with
 |tmp t=>exact h t (UG hx)
 |_=>rfl
theorem gL{o:Oper}{T T':aD}{b:Bool}(h:∀t∈rF ops.toList o,T' t=T t)(hw:aU ops.toList T N o=some b):aU ops.toList T' N o=some b:=by
 unfold aU at hw⊢
 split
 ·rename_i hg;rw[hg]at hw;exact hw
 ·rename_i j want hg;rw[hg]at hw;simp only at hw
  split
  ·rename_i d hd;rw[hd]at hw;simp only at hw;have:d∈rF ops.toList o:=by unfold rF;rw[hg];simp only[hd];simp
   rw[h d this];exact hw
  ·rename_i hd;rw[hd]at hw;exact hw
theorem xV{k:Nat}{prev:fD}{T:aD}{H:aC}(h:Q .normal T H):iI P N ops Q k [] prev T H:=h
theorem TU{k:Nat}{o:Oper}{l:List Oper}{prev:fD}{T:aD}{H:aC}(mt:Bool)(fresh:Nat){v:PV}{e:qD}(hw:aU ops.toList T N o=some true)(hok:cK N o.op=true)
  (hv:eU P mt fresh T H o.op=some (v,e)) (hfr:∀ob,e=some (fresh,ob)->H[fresh]? =some .unborn) {H':aC} (hH':lQ H (DN e)=H') {rd:List Nat} (hrd:mU T o.op++(DN e).map (·.1)=rd)
  (hap:∀p∈prev,((cL ops.toList).getD k 0).testBit p.1=true\/((∀id∈p.2.2,id∉rd)/\∀e'∈DN e,e'.1∉p.2.1))
  (h:iI P N ops Q (k+1) l (prev++ [(k,rd,(DN e).map (·.1))]) (bU T o.dst v) H'):iI P N ops Q k (o::l) prev T H:=by
 subst hH';refine⟨v,DN e,rd, ?_, ?_,hap,h⟩
 ·intro T' H' hT hHd hlen E a ho hE ht;refine .inr ⟨cB ht (gL hT hw),λnext Q hn=> ?_⟩;have hv':eU P mt fresh T' H' o.op=some (v,e):=by
   rw[IL (mO hT),ZO (H:=H),hv];intro id hid;exact hHd id (by rw[<-hrd];exact aTs.2 (.inl hid))
  subst hE;obtain⟨E',val,h1,h2,h3,h4,h5⟩:=sN ho ht hok hv' (λob he=>by
   rw[hHd fresh (by rw[<-hrd,he];simp[DN])];exact hfr ob he)
  rw[aF8]at h4;have:=hn E' val h2 h3 h4 h5;unfold Oper.wp;rcases h1 with h1| ⟨h1,rfl⟩
  ·rw[h1];exact this
  ·rw[h1];exact this
 ·intro e' he';rw[<-hrd];exact aTs.2 (.inr (aTq.2 ⟨e',he',rfl⟩))
theorem UV{k:Nat}{o:Oper}{l:List Oper}{prev:fD}{T:aD}{H:aC}(hw:aU ops.toList T N o=some false)
  (h:iI P N ops Q (k+1) l (prev++ [(k,[],[])]) (bU T o.dst .junk) H):iI P N ops Q k (o::l) prev T H:=
 ⟨.junk,[],[],λT' H' hT _ _ E a ho hE ht=>.inl ⟨cB ht (gL hT hw),rfl, .inl rfl⟩,z6,λp _=>.inr ⟨z6,z6⟩,h⟩
theorem rU{k:Nat}{o:Oper}{l:List Oper}{prev:fD}{T:aD}{H:aC}{fo:Operand}{xs:Array Operand}{ts:Array TypeId}(hop:o.op= .call ⟨.value fo,xs,ts⟩)(hw:aU ops.toList T N o=some true)(hok:cK N o.op=true)
  {f:FuncId} {pf pc:List PV} (hf:bT T fo= .fn (.func f) pf pc) (hgo:aP P f=true) {args:List PV} (hargs:pf++(xs.toList.map λx=>(bT T x).drop1)++pc=args) {r:PV} {eff:List (Nat×AObj)} {rd:List Nat}
  (hown:∀e∈eff,e.1∈rd) (hc:∀H':aC,(∀id∈rd,H'[id]? =H[id]?)->H'.length=H.length->aN P f args H' λr' H''=>r'=r/\H''=lQ H' eff)
  (hap:∀p∈prev,((cL ops.toList).getD k 0).testBit p.1=true\/((∀id∈p.2.2,id∉rd)/\∀e'∈eff,e'.1∉p.2.1))
  (h:iI P N ops Q (k+1) l (prev++ [(k,rd,eff.map (·.1))]) (bU T o.dst r) (lQ H eff)):iI P N ops Q k (o::l) prev T H:=by
 refine⟨r,eff,rd, ?_,hown,hap,h⟩;intro T' H' hT hHd hlen E a ho hE ht;refine .inr ⟨cB ht (gL hT hw),λnext Q hn=> ?_⟩;have hag:=mO hT;have hall:∀x∈o.op.operands.toList,aQ N x=true:=λx hx=>aTr.1 hok x hx;rw[hop]at hall hag;simp only[Op.operands,Call.operands]at hall hag;have hr:=aM ht fo (hall fo z6);rw[hag fo z6,hf]at hr;obtain⟨first,caps,hval,h1,h2⟩:∃first caps,a.eval fo= .func (.func f) first caps/\RL E.view first pf/\RL E.view caps pc:=by
  generalize a.eval fo=y at hr;cases hr with
  |fn _ first caps _ _ hf hc hrf hrc=>exact⟨first,caps,rfl,⟨hf,hrf⟩,⟨hc,hrc⟩⟩
 have h3:=DL ht xs (aTr.2 λx hx=>hall x (by simp;right;simpa using hx));have e3:(xs.toList.map λx=>(bT T' x).drop1)=xs.toList.map λx=>(bT T x).drop1:=List.map_congr_left λx hx=>by rw[hag x (by simp;right;simpa using hx)]
 rw[e3]at h3;have hrl:=jU (jU h1 h3) h2;rw[hargs]at hrl;have hrun:(execOp a.eval o).run P E.w= .ok (.enter f (first++xs.map a.eval++caps)) E.w:=by
  unfold execOp;rw[hop];simp only[resolve,hval,Deferred.ofValue,aS4,aS7,aS5,invoke,oR hgo]
 unfold Oper.wp;rw[hrun];refine(hc H' hHd hlen E _ ho hE hrl).mono ?_;rintro e w' ⟨E',v,r',rfl,rfl,h5,h6,h7,rfl,h8⟩;exact hn E' v h5 h6 h8 h7
end
end Go.Abs
