/- Part 6 of a proof of the law SymbolsReference: Go data as trees, the walks of the functions that the law reaches, the plain laws. -/
import Derived.Tactics
import Derived.Laws.Cells
import Derived.Below
import Derived.ChangeKeysEq
open Option renaming bind_some->aQw,getD_some->aQs,isSome_none->aRj,map_none->aRi,map_some->aQz
open List renaming all_cons->aQc,all_eq_true->aRo,cons_append->aQf,getD_eq_getElem?_getD->aRb,getElem?_append_left->aQt,getElem?_append_right->aQu,getElem?_cons_zero->aRl,getElem?_eq_getElem->aRa,getElem?_eq_none->aQv,getElem?_map->aQ8,getElem?_set_ne->aQy,getElem?_set_self->aQx,getElem?_toArray->aQ7,getElem_map->aQg,getElem_mem->aRh,length_append->aRf,length_cons->aQ0,length_drop->aQ5,length_map->aQp,length_singleton->aQh,length_take->aQ6,map_append->aRt,map_cons->aRd,mem_append->aRp,mem_cons->aRs,mem_filter->aRw,mem_map->aRn,mem_range->aRx,mem_singleton->aRz,nil_append->aRy,replicate->aQ3,set_append_right->aRu
open Nat renaming le_refl->aQj,le_trans->aQk,lt_of_lt_of_le->aQl,lt_or_ge->aQi,mul_le_mul_right->aRg,zero_add->aRe,zero_le->aRk
open Go.Sem renaming run_bind->aQ1,run_pure->aQ4
open Array renaming getD_eq_getD_getElem?->aQm,getElem?_eq_getElem->aQr,getElem?_setIfInBounds_ne->aQo,getElem?_setIfInBounds_self_of_lt->aQn,getElem?_toList->aRc,length_toList->aQq
open Bool renaming and_eq_true->aQd,eq_iff_iff->aRr,false_eq_true->aQ9,not_eq_true'->aQe,not_false->aRm,not_true->aRq,or_eq_true->aRv
open Go.Result renaming andThen_ok->aQ2
set_option linter.unusedVariables false
set_option linter.unusedSimpArgs false
namespace Go
theorem z8{p:Prop}(h:p:=by omega):p:=h
theorem z7{p:Prop}(h:p:=by decide):p:=h
theorem z6{p:Prop}(h:p:=by simp):p:=h
end Go
namespace Go.Abs
inductive iQ where
 |none|full|tok (id:Nat)
 deriving DecidableEq
inductive PV where
 |bool (b:Bool)
 |int (k:IntKind) (n:Int)
 |str (s:List UInt8)
 |nilp
 |optr (id off:Nat)
 |iptr (cs:List PV)
 |slice (es:List PV) (tl:iQ)
 |msl (id off n c:Nat)
 |fn (f:Fn) (first caps:List PV)
 |nilfn
 |agg (cs:List PV)
 |tup (vs:List PV)
 |mapp (id:Nat)
 |nilmap
 |ifc (o:Option (TypeId×Value))
 |junk
def PV.cells:PV->List PV
 | .agg cs=>cs
 |p=> [p]
def PV.drop0:PV->PV
 | .slice es _=>.slice es .none
 |p=>p
def PV.drop1:PV->PV
 | .slice es _=>.slice es .none
 | .agg cs=>.agg (cs.map PV.drop0)
 |p=>p
structure VS where
 n:Nat
 sz:Nat
 loc : Option (Nat × Nat × Nat)     -- block, end of what is laid, end of the block
structure cQ where
 cell:Addr->Option Value
 born:Nat->Prop
 rho:Nat->Nat
 tok:Nat->Option VS
def mK(V:cQ)(tl:iQ)(a:Option Addr)(len cap:Nat):Prop:=
 match tl with
 | .none=>True
 | .full=>cap=len
 | .tok id=>V.born id/\∀t,V.tok id=some t->len<=t.n/\
   (len=t.n->(cap=len/\(0<len->∃b off,a=some ⟨b,off,none⟩))\/∃b pos cend off,t.loc=some (b,pos,cend)/\a=some ⟨b,off,none⟩/\off+len*t.sz=pos/\off+cap*t.sz=cend)
inductive aM(V:cQ):Value->PV->Prop
 |bool (b:Bool):aM V (.bool b) (.bool b)
 |int (k:IntKind) (n:Int):aM V (.int k n) (.int k n)
 |str (s:ByteArray):aM V (.string s) (.str s.data.toList)
 |nilp:aM V (.pointer none) .nilp
 |optr (id off:Nat) (h:V.born id):aM V (.pointer (some ⟨V.rho id,off,none⟩)) (.optr id off)
 |iptr (a:Addr) (cs:List PV) (vs:Nat->Value)
   (hc:∀j,j<cs.length->V.cell (a.add j)=some (vs j))
   (hr:∀j (h:j<cs.length),aM V (vs j) cs[j]):aM V (.pointer (some a)) (.iptr cs)
 |nils (tl:iQ) (ht:mK V tl none 0 0):aM V (.slice none 0 0) (.slice [] tl)
 |slice (a:Addr) (len cap sz:Nat) (es:List PV) (tl:iQ) (vs:Nat->Nat->Value)
   (hlen:es.length=len) (hcap:len<=cap) (hmax:cap<=maxLen)
   (hsz:∀i (h:i<es.length),(es[i].cells).length=sz)
   (hc:∀i j,i<len->j<sz->V.cell (a.add (i*sz+j))=some (vs i j))
   (hr:∀i j (hi:i<es.length) (hj:j<(es[i].cells).length),aM V (vs i j) ((es[i].cells)[j]))
   (ht:mK V tl (some a) len cap):aM V (.slice (some a) len cap) (.slice es tl)
 |msl (id off n c:Nat) (h:V.born id) (hmax:c<=maxLen):aM V (.slice (some ⟨V.rho id,off,none⟩) n c) (.msl id off n c)
 |fn (f:Fn) (first caps:Array Value) (pf pc:List PV) (hf:first.size=pf.length) (hc:caps.size=pc.length)
   (hrf:∀i (h:i<pf.length),aM V (first.getD i undef) pf[i])
   (hrc:∀i (h:i<pc.length),aM V (caps.getD i undef) pc[i]):aM V (.func f first caps) (.fn f pf pc)
 |nilfn:aM V .nilFunc .nilfn
 |agg (arr:Array Value) (cs:List PV) (hl:arr.size=cs.length)
   (hr:∀i (h:i<cs.length),aM V (arr.getD i undef) cs[i]):aM V (.agg arr) (.agg cs)
 |tup (arr:Array Value) (cs:List PV) (hl:arr.size=cs.length)
   (hr:∀i (h:i<cs.length),aM V (arr.getD i undef) cs[i]):aM V (.tuple arr) (.tup cs)
 |mapp (id:Nat) (h:V.born id):aM V (.map (some (V.rho id))) (.mapp id)
 |nilmap:aM V (.map none) .nilmap
 |nili:aM V .nilIface (.ifc none)
 |ifc (t:TypeId) (v:Value):aM V (.iface t v) (.ifc (some (t,v)))
 |junk (v:Value):aM V v .junk
structure cQ.le(V V':cQ):Prop where
 cell:∀a v,V.cell a=some v->V'.cell a=some v
 born:∀id,V.born id->V'.born id
 rho:∀id,V.born id->V'.rho id=V.rho id
 tok:∀id t',V.born id->V'.tok id=some t'->∃t,V.tok id=some t/\(t'=t\/t.n<t'.n)
theorem cQ.le.refl(V:cQ):V.le V:=⟨λ_ _ h=>h,λ_ h=>h,λ_ _=>rfl,λ_ t' _ h=>⟨t',h, .inl rfl⟩⟩
theorem cQ.le.trans{A B C:cQ}(h:A.le B)(k:B.le C):A.le C:=
 ⟨λa v x=>k.cell a v (h.cell a v x),λid x=>k.born id (h.born id x),
  λid x=>(k.rho id (h.born id x)).trans (h.rho id x),
  λid t' hb ht=>by
  obtain⟨t,h1,h2⟩:=k.tok id t' (h.born id hb) ht;obtain⟨t0,h3,h4⟩:=h.tok id t hb h1;refine⟨t0,h3, ?_⟩;rcases h2 with rfl|h2
  ·exact h4
  ·rcases h4 with rfl|h4
   ·exact .inr h2
   ·exact .inr z8⟩
theorem mK.mono{V V':cQ}(h:V.le V'){tl a len cap}(ht:mK V tl a len cap):mK V' tl a len cap:=by
 cases tl with
 |none=>trivial
 |full=>exact ht
 |tok id=>
  obtain⟨hb,ht⟩:=ht;refine⟨h.born id hb,λt' e=> ?_⟩;obtain⟨t,e',h'⟩:=h.tok id t' hb e;have:=ht t e';rcases h' with rfl|h'
  ·exact this
  ·exact⟨z8,λq=>z8⟩
theorem aM.mono{V V':cQ}(h:V.le V'){v:Value}{p:PV}(r:aM V v p):aM V' v p:=by
 induction r with
 |bool b=>exact .bool b
 |int k n=>exact .int k n
 |str s=>exact .str s
 |nilp=>exact .nilp
 |optr id off hb=>rw[<-h.rho id hb];exact .optr id off (h.born id hb)
 |iptr a cs vs hc _ ih=>exact .iptr a cs vs (λj hj=>h.cell _ _ (hc j hj)) ih
 |nils tl ht=>exact .nils tl (ht.mono h)
 |slice a len cap sz es tl vs hlen hcap hmax hsz hc _ ht ih=>
  exact .slice a len cap sz es tl vs hlen hcap hmax hsz (λi j hi hj=>h.cell _ _ (hc i j hi hj)) ih (ht.mono h)
 |msl id off n c hb hm=>rw[<-h.rho id hb];exact .msl id off n c (h.born id hb) hm
 |fn f first caps pf pc hf hc _ _ ih1 ih2=>exact .fn f first caps pf pc hf hc ih1 ih2
 |nilfn=>exact .nilfn
 |agg arr cs hl _ ih=>exact .agg arr cs hl ih
 |tup arr cs hl _ ih=>exact .tup arr cs hl ih
 |mapp id hb=>rw[<-h.rho id hb];exact .mapp id (h.born id hb)
 |nilmap=>exact .nilmap
 |nili=>exact .nili
 |ifc t v=>exact .ifc t v
 |junk v=>exact .junk v
theorem aM.drop0{V:cQ}{v:Value}{p:PV}(r:aM V v p):aM V v p.drop0:=by
 cases r with
 |nils tl ht=>exact .nils .none trivial
 |slice a len cap sz es tl vs hlen hcap hmax hsz hc hr ht=>exact .slice a len cap sz es .none vs hlen hcap hmax hsz hc hr trivial
 |bool b=>exact .bool b
 |int k n=>exact .int k n
 |str s=>exact .str s
 |nilp=>exact .nilp
 |optr id off hb=>exact .optr id off hb
 |iptr a cs vs hc hr=>exact .iptr a cs vs hc hr
 |msl id off n c hb hm=>exact .msl id off n c hb hm
 |fn f first caps pf pc hf hc h1 h2=>exact .fn f first caps pf pc hf hc h1 h2
 |nilfn=>exact .nilfn
 |agg arr cs hl hr=>exact .agg arr cs hl hr
 |tup arr cs hl hr=>exact .tup arr cs hl hr
 |mapp id hb=>exact .mapp id hb
 |nilmap=>exact .nilmap
 |nili=>exact .nili
 |ifc t v=>exact .ifc t v
 |junk v=>exact .junk v
theorem aM.drop1{V:cQ}{v:Value}{p:PV}(r:aM V v p):aM V v p.drop1:=by
 cases r with
 |nils tl ht=>exact .nils .none trivial
 |slice a len cap sz es tl vs hlen hcap hmax hsz hc hr ht=>exact .slice a len cap sz es .none vs hlen hcap hmax hsz hc hr trivial
 |bool b=>exact .bool b
 |int k n=>exact .int k n
 |str s=>exact .str s
 |nilp=>exact .nilp
 |optr id off hb=>exact .optr id off hb
 |iptr a cs vs hc hr=>exact .iptr a cs vs hc hr
 |msl id off n c hb hm=>exact .msl id off n c hb hm
 |fn f first caps pf pc hf hc h1 h2=>exact .fn f first caps pf pc hf hc h1 h2
 |nilfn=>exact .nilfn
 |agg arr cs hl hr=>exact .agg arr _ (by simpa using hl) λi h=>by simp only[aQg];exact(hr i (by simpa using h)).drop0
 |tup arr cs hl hr=>exact .tup arr cs hl hr
 |mapp id hb=>exact .mapp id hb
 |nilmap=>exact .nilmap
 |nili=>exact .nili
 |ifc t v=>exact .ifc t v
 |junk v=>exact .junk v
theorem aM.cells{V:cQ}{v:Value}{p:PV}(r:aM V v p)(hj:p≠ .junk):
  v.cells.size=p.cells.length/\∀i (h:i<p.cells.length),aM V (v.cells.getD i undef) (p.cells[i]):=by
 cases r with
 |agg arr cs hl hr=>exact⟨hl,hr⟩
 |junk v=>exact(hj rfl).elim
 |_=>
  refine⟨rfl,λi h=> ?_⟩;simp only[PV.cells,aQh]at h;obtain rfl:i=0:=z8
  simp only[PV.cells,Value.cells,List.getElem_cons_zero]
  first
   |exact .bool _|exact .int _ _|exact .str _|exact .nilp|exact .optr _ _ ‹_› |exact .iptr _ _ _ ‹_› ‹_› |exact .nils _ ‹_›
   |exact .slice _ _ _ _ _ _ _ ‹_› ‹_› ‹_› ‹_› ‹_› ‹_› ‹_› |exact .msl _ _ _ _ ‹_› ‹_› |exact .fn _ _ _ _ _ ‹_› ‹_› ‹_› ‹_› |exact .nilfn
   |exact .tup _ _ ‹_› ‹_› |exact .mapp _ ‹_› |exact .nilmap|exact .nili|exact .ifc _ _
inductive rI where
 |iter (s:List UInt8) (pos:Nat)
 |mapo (es:List (Int×PV))
 |miter (im n:Nat) (seen:List Nat)
def lK(V:cQ):List MapEntry->List (Int×PV)->Prop
 | [],[]=>True
 |m::ms,e::es=>m.key= .int .i64 e.1/\aM V m.val e.2/\lK V ms es
 |_,_=>False
def OR(V:cQ):rI->Obj->Prop
 | .iter s pos,o=>∃z:ByteArray,o= .stringIter z pos/\z.data.toList=s
 | .mapo es,o=>∃(ms:List MapEntry) (clock:Nat),o= .map ms.toArray clock/\lK V ms es/\clock=ms.length/\ms.map (·.born)=List.range ms.length/\(es.map (·.1)).Nodup
 | .miter im n seen,o=>V.born im/\o= .mapIter (some (V.rho im)) n seen.toArray n
theorem lK.imp{V V':cQ}:∀ {ms:List MapEntry} {es:List (Int×PV)},(∀v,∀e∈es,aM V v e.2->aM V' v e.2)->lK V ms es->lK V' ms es
 | [],[],_,h=>trivial
 |m::ms,e::es,hv,h=>⟨h.1,hv _ e z6 h.2.1,lK.imp (λv x hx=>hv v x (by simp[hx])) h.2.2⟩
 | [],_::_,_,h=>h.elim
 |_::_,[],_,h=>h.elim
theorem OR.mono{V V':cQ}(h:V.le V'){k:rI}{o:Obj}(r:OR V k o):OR V' k o:=by
 cases k with
 |iter s pos=>exact r
 |mapo es=>
  obtain⟨ms,c,rfl,h1,h2⟩:=r;exact⟨ms,c,rfl,h1.imp λv e _ hv=>hv.mono h,h2⟩
 |miter im n seen=>exact⟨h.born im r.1,by rw[r.2,h.rho im r.1]⟩
theorem OR.cells{V:cQ}{k:rI}{arr:Array Value}{e:TypeId}{f:Nat×Nat}(r:OR V k (.cells arr e f)):False:=by
 cases k with
 |iter s pos=>obtain⟨z,h,_⟩:=r;cases h
 |mapo es=>obtain⟨a,c,h,_⟩:=r;cases h
 |miter im n seen=>cases r.2
inductive AObj where
 |unborn
 |row (cs:List PV)
 |buf (n sz:Nat)
 |glob (b:Nat) (vs:List Value)
 |obj (k:rI)
inductive sD where
 |fixed|mut|buf (pos cend:Nat)
def sD.stable:sD->Nat->Bool
 | .fixed,_=>true
 | .mut,_=>false
 | .buf pos _,o=>decide (o<pos)
structure aE where
 w:World
 κ:Nat->sD
 ρ:Nat->Nat
 tb:Nat->Option Nat
 H:List AObj
def pC(H:List AObj)(id:Nat):Prop:=∃o,H[id]? =some o/\o≠ .unborn
def aE.view(E:aE):cQ where
 cell a:=if(E.κ a.block).stable a.off then E.w.cell? a else none
 born id:=pC E.H id
 rho:=E.ρ
 tok id:=match E.H[id]? with
  |some (.buf n sz)=>some ⟨n,sz,(E.tb id).bind λb=>match E.κ b with
   | .buf pos cend=>some (b,pos,cend)
   |_=>none⟩
  |_=>none
def aE.ownsRow(E:aE)(b:Nat):Prop:=∃id cs,E.H[id]? =some (.row cs)/\E.ρ id=b
def aE.ownsBuf(E:aE)(b:Nat):Prop:=∃id n sz,E.H[id]? =some (.buf n sz)/\E.tb id=some b
def aE.ownsObj(E:aE)(b:Nat):Prop:=∃id k,E.H[id]? =some (.obj k)/\E.ρ id=b
def aE.owns(E:aE)(b:Nat):Prop:=E.ownsRow b\/E.ownsBuf b\/E.ownsObj b
structure aE.ObjsOk(E:aE):Prop where
 at_:∀id k,E.H[id]? =some (.obj k)->(∃o,E.w.heap[E.ρ id]? =some o/\OR E.view k o)/\E.κ (E.ρ id)= .mut
 inj:∀id id' k k',E.H[id]? =some (.obj k)->E.H[id']? =some (.obj k')->E.ρ id=E.ρ id'->id=id'
theorem aE.ObjsOk.lt{E:aE}(h:E.ObjsOk){id:Nat}{k:rI}(hi:E.H[id]? =some (.obj k)):E.ρ id<E.w.heap.size:=by
 obtain⟨⟨o,h1,_⟩,_⟩:=h.at_ id k hi;rcases aQi (E.ρ id) E.w.heap.size with hl|hl
 ·exact hl
 ·rw[Array.getElem?_eq_none hl]at h1;cases h1
theorem aE.ObjsOk.of{E E':aE}(h:E.ObjsOk)(hv:E.view.le E'.view)(hk:∀id k,E'.H[id]? =some (.obj k)->E.H[id]? =some (.obj k)/\E'.ρ id=E.ρ id/\E'.w.heap[E.ρ id]? =E.w.heap[E.ρ id]? /\E'.κ (E.ρ id)=E.κ (E.ρ id)):E'.ObjsOk:=by
 constructor
 ·intro id k hi;obtain⟨h1,h2,h3,h4⟩:=hk id k hi;obtain⟨⟨o,a1,a2⟩,a3⟩:=h.at_ id k h1;rw[h2,h3,h4];exact⟨⟨o,a1,a2.mono hv⟩,a3⟩
 ·intro id id' k k' h1 h2 e;obtain⟨a1,a2,_⟩:=hk id k h1;obtain⟨b1,b2,_⟩:=hk id' k' h2;rw[a2,b2]at e;exact h.inj id id' k k' a1 b1 e
theorem aE.ownsObj_of{E E':aE}(hk:∀id k,E'.H[id]? =some (.obj k)->E.H[id]? =some (.obj k)/\E'.ρ id=E.ρ id){b:Nat}(h:E'.ownsObj b):E.ownsObj b:=by
 obtain⟨id,k,h1,h2⟩:=h;obtain⟨a1,a2⟩:=hk id k h1;exact⟨id,k,a1,a2.symm.trans h2⟩
structure aE.Ok(E:aE):Prop where
 rows:∀id cs,E.H[id]? =some (.row cs)->∃arr elem,E.w.heap[E.ρ id]? =some (.cells arr elem (0,0))/\arr.size=cs.length/\
  (∀i (h:i<cs.length),aM E.view (arr.getD i undef) cs[i])/\E.κ (E.ρ id)= .mut
 bufs:∀id n sz b,E.H[id]? =some (.buf n sz)->E.tb id=some b->∃arr elem pos,E.w.heap[b]? =some (.cells arr elem (0,0))/\E.κ b= .buf pos arr.size
 injr:∀id id' cs cs',E.H[id]? =some (.row cs)->E.H[id']? =some (.row cs')->E.ρ id=E.ρ id'->id=id'
 injb:∀id id' n sz n' sz' b,E.H[id]? =some (.buf n sz)->E.H[id']? =some (.buf n' sz')->E.tb id=some b->E.tb id'=some b->id=id'
 globs:∀(id b:Nat) (vs:List Value),E.H[id]? =some (AObj.glob b vs)->∀i (h:i<vs.length),E.view.cell ⟨b,i,none⟩=some vs[i]
 objs:E.ObjsOk
theorem aE.Ok.globs_of{E E':aE}(ho:E.Ok)(hc:∀a v,E.view.cell a=some v->E'.view.cell a=some v)(h:∀(id b:Nat) (vs:List Value),E'.H[id]? =some (AObj.glob b vs)->E.H[id]? =some (.glob b vs)):
  ∀(id b:Nat) (vs:List Value),E'.H[id]? =some (AObj.glob b vs)->∀i (h:i<vs.length),E'.view.cell ⟨b,i,none⟩=some vs[i]:=
 λid b vs hi i hl=>hc _ _ (ho.globs id b vs (h id b vs hi) i hl)
structure aE.le(E E':aE):Prop where
 os:E'.w.os=E.w.os
 tape:E'.w.tape=E.w.tape
 output:E'.w.output=E.w.output
 size:E.w.heap.size<=E'.w.heap.size
 other:∀b,b<E.w.heap.size->¬E.owns b->E'.κ b=E.κ b/\E'.w.heap[b]? =E.w.heap[b]?
 view:E.view.le E'.view
 born:∀b,b<E.w.heap.size->E'.owns b->E.owns b
theorem aE.le.refl(E:aE):E.le E:=⟨rfl,rfl,rfl,aQj _,λ_ _ _=>⟨rfl,rfl⟩, .refl _,λ_ _=>id⟩
theorem aE.le.trans{A B C:aE}(h:A.le B)(k:B.le C):A.le C:=
 ⟨k.os.trans h.os,k.tape.trans h.tape,k.output.trans h.output,aQk h.size k.size,
  λb hb h1=>by
  obtain⟨e1,e2⟩:=h.other b hb h1;obtain⟨e3,e4⟩:=k.other b (aQl hb h.size) (λx=>h1 (h.born b hb x));exact⟨e3.trans e1,e4.trans e2⟩,
  h.view.trans k.view,
  λb hb x=>h.born b hb (k.born b (aQl hb h.size) x)⟩
structure eU(V:cQ)(N:Nat)(a:Act)(T:Nat->PV):Prop where
 size:a.tmps.size=N
 defers:a.defers= []
 rel:∀i,i<N->aM V (a.tmps.getD i undef) (T i)
def nO(T:Nat->PV)(d:Nat)(v:PV):Nat->PV:=λi=>if i=d then v else T i
def bT(T:Nat->PV)(d:Option Nat)(v:PV):Nat->PV:=match d with|some d=>nO T d v|none=>T
theorem eU.mono{V V':cQ}{N:Nat}{a:Act}{T:Nat->PV}(h:V.le V')(r:eU V N a T):eU V' N a T:=
 ⟨r.size,r.defers,λi hi=>(r.rel i hi).mono h⟩
theorem eU.put{V:cQ}{N:Nat}{a:Act}{T:Nat->PV}(r:eU V N a T)(d:Option Nat){v:Value}{p:PV}(hv:aM V v p):
  eU V N (a.put d v) (bT T d p):=by
 cases d with
 |none=>exact r
 |some d=>
  refine⟨by simp[Act.put,r.size],r.defers,λi hi=> ?_⟩;simp only[Act.put,bT,nO]
  by_cases h:i=d
  ·subst h;rw[if_pos rfl];rw[aQm,aQn (by rw[r.size];exact hi)];exact hv
  ·rw[if_neg h];have:=r.rel i hi;rw[aQm]at this⊢;rw[aQo z8];exact this
def aU:Value->PV
 | .bool b=>.bool b
 | .int k n=>.int k n
 | .string s=>.str s.data.toList
 | .pointer none=>.nilp
 | .slice none 0 0=>.slice [] .full
 | .nilFunc=>.nilfn
 | .map none=>.nilmap
 | .nilIface=>.ifc none
 | .agg cs=>.agg (cs.toList.map fun
  | .bool b=>.bool b
  | .int k n=>.int k n
  | .string s=>.str s.data.toList
  | .pointer none=>.nilp
  | .slice none 0 0=>.slice [] .full
  | .nilFunc=>.nilfn
  | .map none=>.nilmap
  |_=>.junk)
 |_=>.junk
theorem dA(V:cQ)(v:Value):aM V v (aU v):=by
 unfold aU
 split
 ·exact .bool _
 ·exact .int _ _
 ·exact .str _
 ·exact .nilp
 ·exact .nils _ rfl
 ·exact .nilfn
 ·exact .nilmap
 ·exact .nili
 ·rename_i cs;refine .agg _ _ z6 λi h=> ?_;simp only[aQp,aQq]at h;simp only[aQg,Array.getElem_toList];rw[aQm,aQr h,aQs];generalize cs[i]=c
  split
  ·exact .bool _
  ·exact .int _ _
  ·exact .str _
  ·exact .nilp
  ·exact .nils _ rfl
  ·exact .nilfn
  ·exact .nilmap
  ·exact .junk _
 ·exact .junk _
def bO(T:Nat->PV):Operand->PV
 | .tmp t=>T t
 | .const v=>aU v
 | .global _=>.junk
 | .func f=>.fn (.func f) [] []
def aQ(N:Nat):Operand->Bool
 | .tmp t=>decide (t<N)
 |_=>true
theorem aO{V:cQ}{N:Nat}{a:Act}{T:Nat->PV}(r:eU V N a T)(x:Operand)(hx:aQ N x=true):aM V (a.eval x) (bO T x):=by
 cases x with
 |tmp t=>exact r.rel t (of_decide_eq_true hx)
 |const v=>exact dA V v
 |global g=>exact .junk _
 |func f=>exact .fn _ _ _ _ _ rfl rfl (λi h=>absurd h z6) (λi h=>absurd h z6)
theorem AX(a:Addr)(m n:Nat):(a.add m).add n=a.add (m+n):=by
 unfold Addr.add
 by_cases hm:m=0
 ·subst hm;simp
 ·by_cases hn:n=0
  ·subst hn;simp
  ·have:m+n≠0:=z8
   simp only[if_neg hm,if_neg hn,if_neg this,Nat.add_assoc]
theorem uT(a:Addr):a.add 0=a:=by simp[Addr.add]
theorem dD(b o n:Nat):(⟨b,o,none⟩:Addr).add n=⟨b,o+n,none⟩:=by
 unfold Addr.add
 by_cases hn:n=0
 ·subst hn;simp
 ·simp[hn]
theorem aE.cell_stable{E:aE}{a:Addr}{v:Value}(h:E.view.cell a=some v):E.w.cell? a=some v:=by
 simp only[aE.view]at h
 split at h
 ·exact h
 ·cases h
theorem aE.cell_of{E:aE}{a:Addr}{v:Value}(hs:(E.κ a.block).stable a.off=true)(h:E.w.cell? a=some v):E.view.cell a=some v:=by
 simp only[aE.view,hs,if_true,h]
theorem cell?_lt{w:World}{a:Addr}{v:Value}(h:w.cell? a=some v):a.block<w.heap.size:=by
 unfold World.cell? at h;rcases aQi a.block w.heap.size with hl|hl
 ·exact hl
 ·rw[Array.getElem?_eq_none hl]at h;cases h
theorem lS{α:Type}{l:List α}{i:Nat}{a:α}:(l.set i a).length=l.length:=z6
theorem heap_alloc(w:World)(o:Obj)(b:Nat)(h:b<w.heap.size):(w.alloc o).heap[b]? =w.heap[b]? :=Go.RowKit.Below.heap_alloc w o b h
theorem heap_alloc_new(w:World)(o:Obj):(w.alloc o).heap[w.heap.size]? =some o:=by
 show(w.heap.push o)[w.heap.size]? =_;simp
theorem cell?_congr{w w':World}{a:Addr}(h:w'.heap[a.block]? =w.heap[a.block]?):w'.cell? a=w.cell? a:=by
 unfold World.cell?;rw[h]
theorem EI{H:List AObj}{id:Nat}:pC (H++ [.unborn]) id↔pC H id:=by
 unfold pC;constructor
 ·rintro⟨o,h,ho⟩
  by_cases hl:id<H.length
  ·rw[aQt hl]at h;exact⟨o,h,ho⟩
  ·rw[aQu z8]at h;rw[List.getElem?_singleton]at h
   split at h
   ·cases h;exact(ho rfl).elim
   ·cases h
 ·rintro⟨o,h,ho⟩;have hl:id<H.length:=by
   rcases aQi id H.length with hl|hl
   ·exact hl
   ·rw[aQv hl]at h;cases h
  exact⟨o,by rw[aQt hl];exact h,ho⟩
theorem bX{H:List AObj}{id:Nat}{o:AObj}(ho:o≠ .unborn):(H++ [.unborn])[id]? =some o↔H[id]? =some o:=by
 constructor
 ·intro h
  by_cases hl:id<H.length
  ·rwa [aQt hl]at h
  ·rw[aQu z8]at h;rw[List.getElem?_singleton]at h
   split at h
   ·cases h;exact(ho rfl).elim
   ·cases h
 ·intro h;have hl:id<H.length:=by
   rcases aQi id H.length with hl|hl
   ·exact hl
   ·rw[aQv hl]at h;cases h
  rw[aQt hl];exact h
def aE.ext(E:aE):aE:= {E with H:=E.H++ [.unborn]}
theorem aE.ext_view_le(E:aE):E.view.le E.ext.view:=by
 refine⟨λa v h=>h,λid h=>EI.2 h,λ_ _=>rfl,λid t' hb h=>⟨t', ?_, .inl rfl⟩⟩;obtain⟨o,h1,h2⟩:=hb;have e:(E.H++ [.unborn])[id]? =E.H[id]? :=by
  rw[h1];exact(bX h2).2 h1
 simp only[aE.view,aE.ext,e]at h⊢;exact h
theorem aE.ext_le(E:aE):E.le E.ext:=by
 refine⟨rfl,rfl,rfl,aQj _,λ_ _ _=>⟨rfl,rfl⟩,E.ext_view_le,λb _=>Or.imp ?_ (Or.imp ?_ (aE.ownsObj_of (E:=E) (E':=E.ext) λid k h=>⟨(bX z6).1 h,rfl⟩))⟩
 ·rintro⟨id,cs,h,e⟩;exact⟨id,cs,(bX z6).1 h,e⟩
 ·rintro⟨id,n,sz,h,e⟩;exact⟨id,n,sz,(bX z6).1 h,e⟩
theorem aE.Ok.ext{E:aE}(h:E.Ok):E.ext.Ok:=by
 refine⟨?_, ?_, ?_, ?_,h.globs_of E.ext_view_le.cell λid b vs hi=>(bX z6).1 hi,h.objs.of E.ext_view_le λid k hi=>⟨(bX z6).1 hi,rfl,rfl,rfl⟩⟩
 ·intro id cs hi;obtain⟨arr,elem,h1,h2,h3,h4⟩:=h.rows id cs ((bX z6).1 hi);exact⟨arr,elem,h1,h2,λi hl=>(h3 i hl).mono E.ext_view_le,h4⟩
 ·intro id n sz b hi hb;exact h.bufs id n sz b ((bX z6).1 hi) hb
 ·intro id id' cs cs' h1 h2 e;exact h.injr id id' cs cs' ((bX z6).1 h1) ((bX z6).1 h2) e
 ·intro id id' n sz n' sz' b h1 h2 e e';exact h.injb id id' n sz n' sz' b ((bX z6).1 h1) ((bX z6).1 h2) e e'
theorem aE.Ok.rowBlock{E:aE}(h:E.Ok){id cs}(hi:E.H[id]? =some (.row cs)):E.ρ id<E.w.heap.size:=by
 obtain⟨arr,elem,h1,_⟩:=h.rows id cs hi;rcases aQi (E.ρ id) E.w.heap.size with hl|hl
 ·exact hl
 ·rw[Array.getElem?_eq_none hl]at h1;cases h1
theorem aE.Ok.bufBlock{E:aE}(h:E.Ok){id n sz b}(hi:E.H[id]? =some (.buf n sz))(hb:E.tb id=some b):b<E.w.heap.size:=by
 obtain⟨arr,elem,pos,h1,_⟩:=h.bufs id n sz b hi hb;rcases aQi b E.w.heap.size with hl|hl
 ·exact hl
 ·rw[Array.getElem?_eq_none hl]at h1;cases h1
def aE.drew(E:aE):aE:= {E with w:=E.w.drew}
theorem aE.drew_le(E:aE):E.le E.drew:=⟨rfl,rfl,rfl,aQj _,λ_ _ _=>⟨rfl,rfl⟩, .refl _,λ_ _=>id⟩
theorem aE.Ok.drew{E:aE}(h:E.Ok):E.drew.Ok:=⟨h.rows,h.bufs,h.injr,h.injb,h.globs,⟨h.objs.at_,h.objs.inj⟩⟩
def aE.newFixed(E:aE)(o:Obj):aE:=
 {E with w:=E.w.alloc o,κ:=λb=>if b=E.w.heap.size then .fixed else E.κ b}
theorem aE.newFixed_view{E:aE}(h:E.Ok)(o:Obj):E.view.le (E.newFixed o).view:=by
 refine⟨λa v hc=> ?_,λid hb=>hb,λ_ _=>rfl,λid t' hb ht=>⟨t', ?_, .inl rfl⟩⟩
 ·have hw:=aE.cell_stable hc;have hl:=cell?_lt hw;simp only[aE.view]at hc⊢
  split at hc
  ·rename_i hs;have hne:a.block≠E.w.heap.size:=z8
   simp only[aE.newFixed,if_neg hne,hs,if_true];rw[cell?_congr (heap_alloc _ _ _ hl)];exact hc
  ·cases hc
 ·simp only[aE.view,aE.newFixed]at ht⊢
  split at ht
  ·rename_i n sz hi;rw[<-ht];cases htb:E.tb id with
   |none=>rfl
   |some b=>
    have:=h.bufBlock hi htb;have hne:b≠E.w.heap.size:=z8
    simp only[aQw,if_neg hne]
  ·cases ht
theorem aE.newFixed_le{E:aE}(h:E.Ok)(o:Obj):E.le (E.newFixed o):=by
 refine⟨rfl,rfl,rfl,by simp[aE.newFixed],λb hb _=>⟨?_,heap_alloc _ _ _ hb⟩,E.newFixed_view h o,λb hb=>id⟩;have hne:b≠E.w.heap.size:=z8
 simp only[aE.newFixed,if_neg hne]
theorem aE.Ok.newFixed{E:aE}(h:E.Ok)(o:Obj):(E.newFixed o).Ok:=by
 refine⟨?_, ?_,h.injr,h.injb,h.globs_of (E.newFixed_view h o).cell λ_ _ _ hi=>hi,h.objs.of (E.newFixed_view h o) λid k hi=>⟨hi,rfl,heap_alloc _ _ _ (h.objs.lt hi),by simp only[aE.newFixed,if_neg (Nat.ne_of_lt (h.objs.lt hi))]⟩⟩
 ·intro id cs hi;have hl:=h.rowBlock hi;obtain⟨arr,elem,h1,h2,h3,h4⟩:=h.rows id cs hi;have hne:E.ρ id≠E.w.heap.size:=z8
  exact⟨arr,elem,by rw[<-h1];exact heap_alloc _ _ _ hl,h2,λi hl=>(h3 i hl).mono (E.newFixed_view h o),by simp only[aE.newFixed,if_neg hne];exact h4⟩
 ·intro id n sz b hi hb;have hl:=h.bufBlock hi hb;obtain⟨arr,elem,pos,h1,h2⟩:=h.bufs id n sz b hi hb;have hne:b≠E.w.heap.size:=z8
  exact⟨arr,elem,pos,by rw[<-h1];exact heap_alloc _ _ _ hl,by simp only[aE.newFixed,if_neg hne];exact h2⟩
theorem aK{H:List AObj}{id id':Nat}{o:AObj}(hl:id<H.length):(H.set id o)[id']? =if id'=id then some o else H[id']? :=by
 by_cases h:id'=id
 ·subst h;rw[if_pos rfl,aQx hl]
 ·rw[if_neg h,aQy (λe=>h e.symm)]
def aE.newRow(E:aE)(id:Nat)(arr:Array Value)(elem:TypeId)(cs:List PV):aE:=
 {w:=E.w.alloc (.cells arr elem),κ:=λb=>if b=E.w.heap.size then .mut else E.κ b,ρ:=λi=>if i=id then E.w.heap.size else E.ρ i,tb:=E.tb,H:=E.H.set id (.row cs)}
section newRow
variable{E:aE}(h:E.Ok){id:Nat}(hi:E.H[id]? =some .unborn)(arr:Array Value)(elem:TypeId)(cs:List PV)
include h hi
theorem aE.newRow_view:E.view.le (E.newRow id arr elem cs).view:=by
 have hlen:id<E.H.length:=by
  rcases aQi id E.H.length with hl|hl
  ·exact hl
  ·rw[aQv hl]at hi;cases hi
 have hne:∀x,pC E.H x->x≠id:=by rintro x ⟨o,h1,h2⟩ rfl;rw[hi]at h1;cases h1;exact h2 rfl
 refine⟨λa v hc=> ?_,λx hb=> ?_,λx hb=> ?_,λx t' hb ht=>⟨t', ?_, .inl rfl⟩⟩
 ·have hl:=cell?_lt (aE.cell_stable hc);simp only[aE.view]at hc⊢
  split at hc
  ·rename_i hs;have hne:a.block≠E.w.heap.size:=z8
   simp only[aE.newRow,if_neg hne,hs,if_true];rw[cell?_congr (heap_alloc _ _ _ hl)];exact hc
  ·cases hc
 ·have:=hne x hb;obtain⟨o,h1,h2⟩:=hb;exact⟨o,by simp only[aE.newRow,aK hlen,if_neg this];exact h1,h2⟩
 ·simp only[aE.view,aE.newRow,if_neg (hne x hb)]
 ·have:=hne x hb;simp only[aE.view,aE.newRow,aK hlen,if_neg this]at ht⊢
  split at ht
  ·rename_i n sz hx;rw[<-ht];cases htb:E.tb x with
   |none=>rfl
   |some b=>
    have:=h.bufBlock hx htb;have hne:b≠E.w.heap.size:=z8
    simp only[aQw,if_neg hne]
  ·cases ht
theorem aE.newRow_le:E.le (E.newRow id arr elem cs):=by
 have hlen:id<E.H.length:=by
  rcases aQi id E.H.length with hl|hl
  ·exact hl
  ·rw[aQv hl]at hi;cases hi
 refine⟨rfl,rfl,rfl,by simp[aE.newRow],λb hb _=>⟨?_,heap_alloc _ _ _ hb⟩,aE.newRow_view h hi arr elem cs,λb hb=>Or.imp ?_ (Or.imp ?_ (aE.ownsObj_of λx k hx=> ?_))⟩
 ·have hne:b≠E.w.heap.size:=z8
  simp only[aE.newRow,if_neg hne]
 ·rintro⟨x,cs',h1,h2⟩;simp only[aE.newRow,aK hlen]at h1 h2
  split at h1
  ·rename_i e;rw[if_pos e]at h2;omega
  ·rename_i e;rw[if_neg e]at h2;exact⟨x,cs',h1,h2⟩
 ·rintro⟨x,n,sz,h1,h2⟩;simp only[aE.newRow,aK hlen]at h1 h2
  split at h1
  ·cases h1
  ·exact⟨x,n,sz,h1,h2⟩
 ·simp only[aE.newRow,aK hlen]at hx⊢
  split at hx
  ·cases hx
  ·rename_i e;exact⟨hx,by rw[if_neg e]⟩
theorem aE.Ok.newRow(hs:arr.size=cs.length)(hr:∀i (hl:i<cs.length),aM E.view (arr.getD i undef) cs[i]):(E.newRow id arr elem cs).Ok:=by
 have hlen:id<E.H.length:=by
  rcases aQi id E.H.length with hl|hl
  ·exact hl
  ·rw[aQv hl]at hi;cases hi
 have hv:=aE.newRow_view h hi arr elem cs;refine⟨?_, ?_, ?_, ?_,h.globs_of hv.cell (by intro x b vs hx;simp only[aE.newRow,aK hlen]at hx;split at hx<;>first|exact hx|cases hx),h.objs.of hv λx k hx=> ?_⟩
 rotate_left 4
 ·simp only[aE.newRow,aK hlen]at hx⊢
  split at hx
  ·cases hx
  ·rename_i e;have hl:=h.objs.lt hx;exact⟨hx,by rw[if_neg e],heap_alloc _ _ _ hl,by rw[if_neg (Nat.ne_of_lt hl)]⟩
 ·intro x cs' hx;simp only[aE.newRow,aK hlen]at hx
  split at hx
  ·rename_i e;cases hx;refine⟨arr,elem, ?_,hs,λi hl=>(hr i hl).mono hv, ?_⟩
   ·simp only[aE.newRow,if_pos e];exact heap_alloc_new _ _
   ·simp only[aE.newRow,if_pos e,if_true]
  ·rename_i e;have hl:=h.rowBlock hx;obtain⟨arr',elem',h1,h2,h3,h4⟩:=h.rows x cs' hx;have hne:E.ρ x≠E.w.heap.size:=z8
   refine⟨arr',elem', ?_,h2,λi hl=>(h3 i hl).mono hv, ?_⟩
   ·simp only[aE.newRow,if_neg e];rw[<-h1];exact heap_alloc _ _ _ hl
   ·simp only[aE.newRow,if_neg e,if_neg hne];exact h4
 ·intro x n sz b hx hb;simp only[aE.newRow,aK hlen]at hx hb
  split at hx
  ·cases hx
  ·have hl:=h.bufBlock hx hb;obtain⟨arr',elem',pos,h1,h2⟩:=h.bufs x n sz b hx hb;have hne:b≠E.w.heap.size:=z8
   exact⟨arr',elem',pos,by rw[<-h1];exact heap_alloc _ _ _ hl,by simp only[aE.newRow,if_neg hne];exact h2⟩
 ·intro x x' c c' h1 h2 e;simp only[aE.newRow,aK hlen]at h1 h2 e
  split at h1<;>split at h2
  ·omega
  ·rename_i a b;rw[if_pos a,if_neg b]at e;have:=h.rowBlock h2;omega
  ·rename_i a b;rw[if_neg a,if_pos b]at e;have:=h.rowBlock h1;omega
  ·rename_i a b;rw[if_neg a,if_neg b]at e;exact h.injr x x' c c' h1 h2 e
 ·intro x x' n sz n' sz' b h1 h2 e e';simp only[aE.newRow,aK hlen]at h1 h2 e e'
  split at h1<;>split at h2
  ·cases h1
  ·cases h1
  ·cases h2
  ·exact h.injb x x' n sz n' sz' b h1 h2 e e'
end newRow
def aE.setRow(E:aE)(id off:Nat)(v:Value)(cs:List PV)(p:PV):aE:=
 {E with w:=E.w.setCell ⟨E.ρ id,off,none⟩ v,H:=E.H.set id (.row (cs.set off p))}
theorem fU(w:World)(a:Addr)(u:Value)(k:Nat)(h:k≠a.block):(w.setCell a u).heap[k]? =w.heap[k]? :=
 Go.RowKit.Below.heap_setCell w a u k h
theorem nM{w:World}{b o:Nat}{u:Value}{arr elem fr}(h:w.heap[b]? =some (.cells arr elem fr)):
  (w.setCell ⟨b,o,none⟩ u).heap[b]? =some (.cells (arr.setIfInBounds o u) elem fr):=by
 simp only[World.setCell,Array.getElem?_modify,if_true,h,aQz];rfl
section setRow
variable{E:aE}(h:E.Ok){id:Nat}{cs:List PV}(hi:E.H[id]? =some (.row cs))(off:Nat){v:Value}{p:PV}
include h hi
theorem aE.setRow_view:E.view.le (E.setRow id off v cs p).view:=by
 have hlen:id<E.H.length:=by
  rcases aQi id E.H.length with hl|hl
  ·exact hl
  ·rw[aQv hl]at hi;cases hi
 obtain⟨arr,elem,h1,h2,h3,h4⟩:=h.rows id cs hi;refine⟨λa u hc=> ?_,λx hb=> ?_,λx hb=>rfl,λx t' hb ht=>⟨t', ?_, .inl rfl⟩⟩
 ·simp only[aE.view]at hc⊢
  split at hc
  ·rename_i hs;have hne:a.block≠E.ρ id:=by intro e;rw[e,h4]at hs;simp[sD.stable]at hs
   simp only[aE.setRow,hs,if_true];rw[cell?_congr (fU _ _ _ _ hne)];exact hc
  ·cases hc
 ·obtain⟨o,a1,a2⟩:=hb
  by_cases e:x=id
  ·exact⟨.row (cs.set off p),by simp only[aE.setRow,aK hlen,if_pos e],z6⟩
  ·exact⟨o,by simp only[aE.setRow,aK hlen,if_neg e];exact a1,a2⟩
 ·by_cases e:x=id
  ·simp only[aE.view,aE.setRow,aK hlen,if_pos e]at ht;cases ht
  ·simp only[aE.view,aE.setRow,aK hlen,if_neg e]at ht⊢;exact ht
theorem aE.setRow_le:E.le (E.setRow id off v cs p):=by
 have hlen:id<E.H.length:=by
  rcases aQi id E.H.length with hl|hl
  ·exact hl
  ·rw[aQv hl]at hi;cases hi
 refine⟨rfl,rfl,rfl,by simp[aE.setRow,World.setCell],λb hb hn=>⟨rfl, ?_⟩,aE.setRow_view h hi off,λb hb=>Or.imp ?_ (Or.imp ?_ (aE.ownsObj_of λx k hx=> ?_))⟩
 ·exact fU _ _ _ _ (λe=>hn (.inl ⟨id,cs,hi,e.symm⟩))
 ·rintro⟨x,cs',a1,a2⟩;simp only[aE.setRow,aK hlen]at a1 a2
  split at a1
  ·rename_i e;exact⟨id,cs,hi,by rw[<-e];exact a2⟩
  ·exact⟨x,cs',a1,a2⟩
 ·rintro⟨x,n,sz,a1,a2⟩;simp only[aE.setRow,aK hlen]at a1 a2
  split at a1
  ·cases a1
  ·exact⟨x,n,sz,a1,a2⟩
 ·simp only[aE.setRow,aK hlen]at hx
  split at hx
  ·cases hx
  ·exact⟨hx,rfl⟩
theorem aE.Ok.setRow(hv:aM E.view v p):(E.setRow id off v cs p).Ok:=by
 have hlen:id<E.H.length:=by
  rcases aQi id E.H.length with hl|hl
  ·exact hl
  ·rw[aQv hl]at hi;cases hi
 have hle:=aE.setRow_view h hi off (v:=v) (p:=p);obtain⟨arr,elem,h1,h2,h3,h4⟩:=h.rows id cs hi;refine⟨?_, ?_, ?_, ?_,h.globs_of hle.cell (by intro x b vs hx;simp only[aE.setRow,aK hlen]at hx;split at hx<;>first|exact hx|cases hx),h.objs.of hle λx k hx=> ?_⟩
 rotate_left 4
 ·simp only[aE.setRow,aK hlen]at hx
  split at hx
  ·cases hx
  ·refine⟨hx,rfl,fU _ _ _ _ λe=> ?_,rfl⟩;obtain⟨⟨o,b1,b2⟩,_⟩:=h.objs.at_ x k hx;rw[show E.ρ x=E.ρ id from e,h1]at b1;cases b1;exact b2.cells
 ·intro x cs' hx;simp only[aE.setRow,aK hlen]at hx
  split at hx
  ·rename_i e;cases hx;subst e;refine⟨arr.setIfInBounds off v,elem,nM h1,by simp[h2],λi hl=> ?_,h4⟩;simp only[lS]at hl;rw[aQm]
   by_cases e:off=i
   ·subst e;rw[aQn z8];simp only[aQs,List.getElem_set_self];exact hv.mono hle
   ·rw[aQo e,List.getElem_set_ne e,<-aQm];exact(h3 i hl).mono hle
  ·rename_i e;obtain⟨arr',elem',b1,b2,b3,b4⟩:=h.rows x cs' hx;have hne:E.ρ x≠E.ρ id:=λq=>e (h.injr x id cs' cs hx hi q);exact⟨arr',elem',by rw[<-b1];exact fU _ _ _ _ hne,b2,λi hl=>(b3 i hl).mono hle,b4⟩
 ·intro x n sz b hx hb;simp only[aE.setRow,aK hlen]at hx hb
  split at hx
  ·cases hx
  ·obtain⟨arr',elem',pos,b1,b2⟩:=h.bufs x n sz b hx hb;have hne:b≠E.ρ id:=by intro q;rw[q,h4]at b2;cases b2
   exact⟨arr',elem',pos,by rw[<-b1];exact fU _ _ _ _ hne,b2⟩
 ·intro x x' c c' a1 a2 e;simp only[aE.setRow,aK hlen]at a1 a2 e;have fix:∀y d,(if y=id then some (AObj.row (cs.set off p))else E.H[y]?)=some (.row d)->∃d',E.H[y]? =some (.row d'):=by
   intro y d q
   split at q
   ·rename_i e;subst e;exact⟨cs,hi⟩
   ·exact⟨d,q⟩
  obtain⟨d,hd⟩:=fix _ _ a1;obtain⟨d',hd'⟩:=fix _ _ a2;exact h.injr x x' d d' hd hd' e
 ·intro x x' n sz n' sz' b a1 a2 e e';simp only[aE.setRow,aK hlen]at a1 a2 e e'
  split at a1<;>split at a2
  ·cases a1
  ·cases a1
  ·cases a2
  ·exact h.injb x x' n sz n' sz' b a1 a2 e e'
end setRow
def aE.newBuf(E:aE)(id n sz:Nat)(arr:Array Value)(elem:TypeId)(pos:Nat):aE:=
  {w:=E.w.alloc (.cells arr elem),κ:=λb=>if b=E.w.heap.size then .buf pos arr.size else E.κ b,ρ:=E.ρ,
    tb:=λi=>if i=id then some E.w.heap.size else E.tb i,H:=E.H.set id (.buf n sz)}
def aE.retok(E:aE)(id n sz:Nat):aE:=
  {E with tb:=λi=>if i=id then none else E.tb i,H:=E.H.set id (.buf n sz)}
section newBuf
variable{E:aE}(h:E.Ok){id n sz:Nat}(hi:E.H[id]? =some .unborn\/∃n0,E.H[id]? =some (.buf n0 sz)/\n0<n)(arr:Array Value)(elem:TypeId)(pos:Nat)
include h hi
omit h in
theorem sQ:id<E.H.length:=by
  rcases aQi id E.H.length with hl|hl
  · exact hl
  · rw[aQv hl]at hi;rcases hi with hi| ⟨_,hi,_⟩<;>cases hi
theorem aE.newBuf_view:E.view.le (E.newBuf id n sz arr elem pos).view:=by
  have hlen:=sQ hi;refine⟨λa v hc=> ?_,λx hb=> ?_,λx hb=>rfl,λx t' hb ht=> ?_⟩
  · have hl:=cell?_lt (aE.cell_stable hc)
    simp only[aE.view]at hc⊢
    split at hc
    · rename_i hs
      have hne:a.block≠E.w.heap.size:=z8
      simp only[aE.newBuf,if_neg hne,hs,if_true];rw[cell?_congr (heap_alloc _ _ _ hl)];exact hc
    · cases hc
  · obtain⟨o,h1,h2⟩:=hb
    by_cases e:x=id
    · exact⟨.buf n sz,by simp only[aE.newBuf,aK hlen,if_pos e],z6⟩
    · exact⟨o,by simp only[aE.newBuf,aK hlen,if_neg e];exact h1,h2⟩
  · by_cases e:x=id
    · subst e
      rcases hi with hu| ⟨n0,hu,hn⟩
      · obtain⟨o,h1,h2⟩:=hb
        rw[hu]at h1;cases h1;exact(h2 rfl).elim
      · refine⟨_,by simp only[aE.view,hu];rfl, .inr ?_⟩
        simp only[aE.view,aE.newBuf,aK hlen,if_true]at ht;cases ht;exact hn
    · refine⟨t', ?_, .inl rfl⟩
      simp only[aE.view,aE.newBuf,aK hlen,if_neg e]at ht⊢
      split at ht
      · rename_i n' sz' hx
        rw[<-ht];cases htb:E.tb x with
        |none=>rfl
        |some b=>
          have:=h.bufBlock hx htb;have hne:b≠E.w.heap.size:=z8
          simp only[aQw,if_neg hne]
      · cases ht
theorem aE.newBuf_le:E.le (E.newBuf id n sz arr elem pos):=by
  have hlen:=sQ hi;refine⟨rfl,rfl,rfl,by simp[aE.newBuf],λb hb _=>⟨?_,heap_alloc _ _ _ hb⟩,aE.newBuf_view h hi arr elem pos,λb hb=>Or.imp ?_ (Or.imp ?_ (aE.ownsObj_of λx k hx=> ?_))⟩
  · have hne:b≠E.w.heap.size:=z8
    simp only[aE.newBuf,if_neg hne]
  · rintro⟨x,cs',h1,h2⟩
    simp only[aE.newBuf,aK hlen]at h1 h2
    split at h1
    · cases h1
    · exact⟨x,cs',h1,h2⟩
  · rintro⟨x,m,s,h1,h2⟩
    simp only[aE.newBuf,aK hlen]at h1 h2
    split at h1
    · rename_i e;rw[if_pos e]at h2;cases h2;omega
    · rename_i e;rw[if_neg e]at h2;exact⟨x,m,s,h1,h2⟩
  · simp only[aE.newBuf,aK hlen]at hx
    split at hx
    · cases hx
    · exact⟨hx,rfl⟩
theorem aE.Ok.newBuf:(E.newBuf id n sz arr elem pos).Ok:=by
  have hlen:=sQ hi;have hv:=aE.newBuf_view h hi arr elem pos;refine⟨?_, ?_, ?_, ?_,h.globs_of hv.cell (by intro x b vs hx;simp only[aE.newBuf,aK hlen]at hx;split at hx<;>first|exact hx|cases hx),h.objs.of hv λx k hx=> ?_⟩
  rotate_left 4
  · simp only[aE.newBuf,aK hlen]at hx
    split at hx
    · cases hx
    · have hl:=h.objs.lt hx
      exact⟨hx,rfl,heap_alloc _ _ _ hl,by simp only[aE.newBuf,if_neg (Nat.ne_of_lt hl)]⟩
  · intro x cs' hx
    simp only[aE.newBuf,aK hlen]at hx
    split at hx
    · cases hx
    · have hl:=h.rowBlock hx
      obtain⟨arr',elem',h1,h2,h3,h4⟩:=h.rows x cs' hx;have hne:E.ρ x≠E.w.heap.size:=z8
      refine⟨arr',elem', ?_,h2,λi hl=>(h3 i hl).mono hv, ?_⟩
      · rw[<-h1];exact heap_alloc _ _ _ hl
      · simp only[aE.newBuf,if_neg hne];exact h4
  · intro x m s b hx hb
    simp only[aE.newBuf,aK hlen]at hx hb
    split at hx
    · rename_i e
      rw[if_pos e]at hb;cases hb;exact⟨arr,elem,pos,heap_alloc_new _ _,by simp only[aE.newBuf,if_true]⟩
    · rename_i e
      rw[if_neg e]at hb;have hl:=h.bufBlock hx hb;obtain⟨arr',elem',pos,h1,h2⟩:=h.bufs x m s b hx hb;have hne:b≠E.w.heap.size:=z8
      exact⟨arr',elem',pos,by rw[<-h1];exact heap_alloc _ _ _ hl,by simp only[aE.newBuf,if_neg hne];exact h2⟩
  · intro x x' c c' h1 h2 e
    simp only[aE.newBuf,aK hlen]at h1 h2 e
    split at h1<;>split at h2
    · cases h1
    · cases h1
    · cases h2
    · exact h.injr x x' c c' h1 h2 e
  · intro x x' n1 s1 n2 s2 b h1 h2 e e'
    simp only[aE.newBuf,aK hlen]at h1 h2 e e'
    split at h1<;>split at h2
    · omega
    · rename_i a b
      rw[if_pos a]at e;rw[if_neg b]at e';cases e;have:=h.bufBlock h2 e';omega
    · rename_i a b
      rw[if_neg a]at e;rw[if_pos b]at e';cases e';have:=h.bufBlock h1 e;omega
    · rename_i a b
      rw[if_neg a]at e;rw[if_neg b]at e';exact h.injb x x' _ _ _ _ _ h1 h2 e e'
end newBuf
section retok
variable{E:aE}(h:E.Ok){id n sz:Nat}(hi:E.H[id]? =some .unborn)
include h hi
omit h in
theorem aE.retok_view:E.view.le (E.retok id n sz).view:=by
  have hlen:id<E.H.length:=sQ (.inl hi) (n:=n) (sz:=sz);have hne:∀x,pC E.H x->x≠id:=by rintro x ⟨o,h1,h2⟩ rfl;rw[hi]at h1;cases h1;exact h2 rfl
  refine⟨λa v hc=>hc,λx hb=> ?_,λx hb=>rfl,λx t' hb ht=>⟨t', ?_, .inl rfl⟩⟩
  · have:=hne x hb
    obtain⟨o,h1,h2⟩:=hb;exact⟨o,by simp only[aE.retok,aK hlen,if_neg this];exact h1,h2⟩
  · simp only[aE.view,aE.retok,aK hlen,if_neg (hne x hb)]at ht⊢;exact ht
omit h in
theorem aE.retok_le:E.le (E.retok id n sz):=by
  have hlen:id<E.H.length:=sQ (.inl hi) (n:=n) (sz:=sz);refine⟨rfl,rfl,rfl,aQj _,λb hb _=>⟨rfl,rfl⟩,aE.retok_view hi,λb hb=>Or.imp ?_ (Or.imp ?_ (aE.ownsObj_of λx k hx=> ?_))⟩
  · rintro⟨x,cs',h1,h2⟩
    simp only[aE.retok,aK hlen]at h1 h2
    split at h1
    · cases h1
    · exact⟨x,cs',h1,h2⟩
  · rintro⟨x,m,s,h1,h2⟩
    simp only[aE.retok,aK hlen]at h1 h2
    split at h1
    · rename_i e;rw[if_pos e]at h2;cases h2
    · rename_i e;rw[if_neg e]at h2;exact⟨x,m,s,h1,h2⟩
  · simp only[aE.retok,aK hlen]at hx
    split at hx
    · cases hx
    · exact⟨hx,rfl⟩
theorem aE.Ok.retok:(E.retok id n sz).Ok:=by
  have hlen:id<E.H.length:=sQ (.inl hi) (n:=n) (sz:=sz);have hv:=aE.retok_view hi (n:=n) (sz:=sz);refine⟨?_, ?_, ?_, ?_,h.globs_of hv.cell (by intro x b vs hx;simp only[aE.retok,aK hlen]at hx;split at hx<;>first|exact hx|cases hx),h.objs.of hv λx k hx=> ?_⟩
  rotate_left 4
  · simp only[aE.retok,aK hlen]at hx
    split at hx
    · cases hx
    · exact⟨hx,rfl,rfl,rfl⟩
  · intro x cs' hx
    simp only[aE.retok,aK hlen]at hx
    split at hx
    · cases hx
    · obtain⟨arr',elem',h1,h2,h3,h4⟩:=h.rows x cs' hx
      exact⟨arr',elem',h1,h2,λi hl=>(h3 i hl).mono hv,h4⟩
  · intro x m s b hx hb
    simp only[aE.retok,aK hlen]at hx hb
    split at hx
    · rename_i e
      rw[if_pos e]at hb;cases hb
    · rename_i e
      rw[if_neg e]at hb;exact h.bufs x m s b hx hb
  · intro x x' c c' h1 h2 e
    simp only[aE.retok,aK hlen]at h1 h2 e
    split at h1<;>split at h2
    · cases h1
    · cases h1
    · cases h2
    · exact h.injr x x' c c' h1 h2 e
  · intro x x' n1 s1 n2 s2 b h1 h2 e e'
    simp only[aE.retok,aK hlen]at h1 h2 e e'
    split at h1<;>split at h2
    · omega
    · rename_i a _;rw[if_pos a]at e;cases e
    · rename_i _ a;rw[if_pos a]at e';cases e'
    · rename_i a b
      rw[if_neg a]at e;rw[if_neg b]at e';exact h.injb x x' _ _ _ _ _ h1 h2 e e'
end retok
def gL(w:World)(a:Addr):List Value->Nat->World
  | [],_=>w
  |v::vs,i=>gL (w.setCell (a.add i) v) a vs (i+1)
theorem zZ(a:Addr):∀(vs:List Value) (i:Nat) (w:World),(gL w a vs i).os=w.os/\(gL w a vs i).tape=w.tape/\(gL w a vs i).output=w.output/\(gL w a vs i).heap.size=w.heap.size
  | [],_,_=>⟨rfl,rfl,rfl,rfl⟩
  |v::vs,i,w=>by
    obtain⟨h1,h2,h3,h4⟩:=zZ a vs (i+1) (w.setCell (a.add i) v);exact⟨h1,h2,h3,by rw[gL,h4];simp[World.setCell]⟩
theorem TD(a:Addr)(n:Nat):(a.add n).block=a.block:=by unfold Addr.add;split<;>rfl
theorem kN(a:Addr)(k:Nat)(hk:k≠a.block):∀(vs:List Value) (i:Nat) (w:World),(gL w a vs i).heap[k]? =w.heap[k]?
  | [],_,_=>rfl
  |v::vs,i,w=>by
    rw[gL,kN a k hk vs (i+1)];exact fU _ _ _ _ (by rw[TD];exact hk)
theorem pZ(b off:Nat)(elem:TypeId)(fr:Nat×Nat):∀(vs:List Value) (i:Nat) (w:World) (arr:Array Value),w.heap[b]? =some (.cells arr elem fr)->∃arr',(gL w ⟨b,off,none⟩ vs i).heap[b]? =some (.cells arr' elem fr)/\arr'.size=arr.size/\∀o,o<arr.size->arr'[o]? =if off+i<=o/\o<off+i+vs.length then vs[o- (off+i)]? else arr[o]?
  | [],i,w,arr,h=>⟨arr,h,rfl,λo ho=>by rw[if_neg z6]⟩
  |v::vs,i,w,arr,h=>by
    have h1:(w.setCell ((⟨b,off,none⟩:Addr).add i) v).heap[b]? =some (.cells (arr.setIfInBounds (off+i) v) elem fr):=by
      rw[dD];exact nM h
    obtain⟨arr',h2,h3,h4⟩:=pZ b off elem fr vs (i+1) _ _ h1;refine⟨arr',h2,by simpa using h3,λo ho=> ?_⟩;rw[h4 o (by simpa using ho)]
    by_cases e:o=off+i
    · subst e
      rw[if_neg z8,if_pos (by simp only[aQ0];omega),aQn ho];simp
    · by_cases c:off+(i+1)<=o/\o<off+(i+1)+vs.length
      · rw[if_pos c,if_pos (by simp only[aQ0];omega)]
        rw[show o- (off+i)=(o- (off+(i+1)))+1 by omega,List.getElem?_cons_succ]
      · rw[if_neg c,if_neg (by simp only[aQ0];omega),aQo (λq=>e q.symm)]
def Value.isCell:Value->Bool
  | .agg _| .tuple _=>false
  |_=>true
theorem DR{P:Program}{w:World}{a:Addr}{v:Value}(hv:Value.isCell v=true)(hc:∃u,w.cell? a=some u)(hf:w.frozen? a=false):(store a v).run P w= .ok () (w.setCell a v):=by
  obtain⟨u,hu⟩:=hc;cases v<;>first| (simp[Value.isCell]at hv;done)|simp[store,Sem.run,hu,hf]
theorem CY{w:World}{a:Addr}{arr elem}(h:w.heap[a.block]? =some (.cells arr elem (0,0))):w.frozen? a=false:=by
  unfold World.frozen?;rw[h];simp
theorem jZ{w:World}{b o:Nat}{arr elem fr}(h:w.heap[b]? =some (.cells arr elem fr)):w.cell? ⟨b,o,none⟩=arr[o]? :=by
  unfold World.cell?;simp[h]
theorem tJ{P:Program}(b off:Nat)(elem:TypeId):∀(vs:List Value) (i:Nat) (w:World) (arr:Array Value),w.heap[b]? =some (.cells arr elem (0,0))->(∀v∈vs,Value.isCell v=true)->off+i+vs.length<=arr.size->(storeCells ⟨b,off,none⟩ vs i).run P w= .ok () (gL w ⟨b,off,none⟩ vs i)
  | [],i,w,arr,_,_,_=>rfl
  |v::vs,i,w,arr,h,hv,hl=>by
    simp only[aQ0]at hl;have h1:(w.setCell ((⟨b,off,none⟩:Addr).add i) v).heap[b]? =some (.cells (arr.setIfInBounds (off+i) v) elem (0,0)):=by
      rw[dD];exact nM h
    have hs:(store ((⟨b,off,none⟩:Addr).add i) v).run P w= .ok () (w.setCell ((⟨b,off,none⟩:Addr).add i) v):=by
      refine DR (hv v z6) ⟨arr[off+i], ?_⟩ ?_
      · rw[dD,jZ h,aQr]
      · rw[dD];exact CY h
    simp only[storeCells,aQ1,hs,aQ2];exact tJ b off elem vs (i+1) _ _ h1 (λu hu=>hv u (by simp[hu])) (by simp;omega)
def uN:TypeDesc->Bool
 | .struct _| .array _ _=>true
 |_=>false
structure TI where
 agg:Bool
 sz:Nat
 bytes:Nat
def cD(P:Program)(t:TypeId):Option TI:=
 match P.underlying t,P.info? t with
 |some d,some i=>some ⟨uN d,i.size,i.bytes⟩
 |_,_=>none
def kX(P:Program)(t:TypeId):Option (List (Nat×TI)):=
 match P.underlying t with
 |some (.struct fs)=>fs.toList.mapM λf=>(cD P f.type).map λi=>(f.offset,i)
 |_=>none
def cN(P:Program)(t:TypeId):Option (TypeId×TI):=
 match P.underlying t with
 |some (.slice e)=>(cD P e).map λi=>(e,i)
 |_=>none
def cF(P:Program)(t:TypeId):Option PV:=((P.info? t).bind (·.zero)).map aU
def jR(P:Program)(t:TypeId):Bool:=match P.underlying t with|some (.pointer _)=>true|_=>false
def MC(P:Program)(t:TypeId):Bool:=match P.underlying t with|some .string=>true|_=>false
def aAz(P:Program)(t:TypeId):Bool:=match P.underlying t with|some .bool=>true|_=>false
def JK(P:Program)(t:TypeId):Option IntKind:=match P.underlying t with|some (.int k)=>some k|_=>none
def PV.isCell:PV->Bool
 | .agg _| .tup _| .junk=>false
 |_=>true
def PV.isJunk:PV->Bool
 | .junk=>true
 |_=>false
def PV.fits(i:TI)(p:PV):Bool:=decide (p.cells.length=i.sz)&&(match p with| .agg _=>i.agg| .tup _| .junk=>false|_=> !i.agg)
def iB(i:TI)(H:List AObj):PV->Option PV
 | .optr id off=>match H[id]? with
  |some (.row cs)=>if i.agg then(if off+i.sz<=cs.length then some (.agg (((cs.drop off).take i.sz).map PV.drop1))else none)else cs[off]?
  |_=>none
 | .iptr cs=>if i.agg then(if i.sz<=cs.length then some (.agg (cs.take i.sz))else none)else cs[0]?
 |_=>none
def cP(cs:List PV)(off:Nat)(vs:List PV):List PV:=
 match vs with
 | []=>cs
 |v::vs=>cP (cs.set off v) (off+1) vs
def mP(i:TI)(H:List AObj)(a:PV)(v:PV):Option (Nat×AObj):=
 match a with
 | .optr id off=>match H[id]? with
  |some (.row cs)=>if off+i.sz<=cs.length/\v.cells.length=i.sz/\v.cells.all PV.isCell=true then some (id, .row (cP cs off v.cells))else none
  |_=>none
 |_=>none
def dT(P:Program)(op:BinOp)(xt:TypeId)(x y:PV):Option PV:=
 match x,y with
 | .int k a, .int k' b=>if k=k' then
   match op with
   | .add=>some (.int k (k.wrap (a+b)))
   | .sub=>some (.int k (k.wrap (a-b)))
   | .mul=>some (.int k (k.wrap (a*b)))
   | .quo=>if b=0 then none else some (.int k (k.wrap (a.tdiv b)))
   | .rem=>if b=0 then none else some (.int k (a.tmod b))
   | .eql=>some (.bool (decide (a=b)))
   | .neq=>some (.bool (!decide (a=b)))
   | .lss=>some (.bool (decide (a<b)))
   | .leq=>some (.bool (decide (a<=b)))
   | .gtr=>some (.bool (decide (a>b)))
   | .geq=>some (.bool (decide (a>=b)))
   |_=>none
  else none
 | .bool a, .bool b=>if aAz P xt then
   match op with
   | .eql=>some (.bool (a==b))
   | .neq=>some (.bool (!(a==b)))
   |_=>none
  else none
 | .str a, .str b=>
   match op with
   | .eql=>some (.bool (decide (a=b)))
   | .neq=>some (.bool (!decide (a=b)))
   | .add=>if a.length+b.length<=maxLen then some (.str (a++b))else none
   | .lss=>some (.bool (Op.bytesLess a b))
   |_=>none
 | .nilp, .nilp=>if jR P xt then(match op with| .eql=>some (.bool true)| .neq=>some (.bool false)|_=>none)else none
 | .iptr _, .nilp| .optr _ _, .nilp=>if jR P xt then(match op with| .eql=>some (.bool false)| .neq=>some (.bool true)|_=>none)else none
 |_,_=>none
def aun(op:UnOp)(x:PV):Option PV:=
 match op,x with
 | .not, .bool b=>some (.bool !b)
 | .neg, .int k n=>some (.int k (k.wrap (0-n)))
 |_,_=>none
def AN(i:PV)(n:Nat):Option Nat:=
 match i with
 | .int _ i=>if 0<=i/\i<n then some i.toNat else none
 |_=>none
def AK(i:PV)(n:Nat):Option Nat:=
 match i with
 | .int _ i=>if 0<=i/\i<=n then some i.toNat else none
 |_=>none
def jW(T:Nat->PV)(i:Option Operand)(n d:Nat):Option Nat:=
 match i with
 |some x=>AK (bO T x) n
 |none=>some d
def jT(P:Program)(T:Nat->PV)(t:TypeId)(x:PV)(lo hi mx:Option Operand):Option PV:=
 match x with
 | .str s=>if MC P t=true/\mx.isNone=true then
   (jW T hi s.length s.length).bind λh=>(jW T lo h 0).bind λl=>some (.str ((s.take h).drop l))
  else none
 | .slice es tl=>match cN P t with
  |some (e,i)=>if(∀e∈es,e.cells.length=i.sz)then
   match mx with
   |none=>(jW T hi es.length es.length).bind λh=>(jW T lo h 0).bind λl=>
     some (.slice ((es.take h).drop l) (if h=es.length/\tl= .full then .full else if hi.isNone=true/\lo.isNone=true then tl else .none))
   |some m=>match hi with
    |none=>none
    |some h=>(AK (bO T m) es.length).bind λm=>(AK (bO T h) m).bind λh=>(jW T lo h 0).bind λl=>
     some (.slice ((es.take h).drop l) (if h=m then .full else .none))
   else none
  |none=>none
 |_=>none
def XM(fl:List (Nat×TI))(f:Nat)(x:PV):Option PV:=
 match fl[f]?,x with
 |some (off,i), .agg cs=>if off+i.sz<=cs.length then(if i.agg then some (.agg ((cs.drop off).take i.sz))else cs[off]?)else none
 |_,_=>none
def tO(fl:List (Nat×TI))(f:Nat)(x:PV):Option PV:=
 match fl[f]? with
 |some (off,i)=>if i.sz=0 then none else
  match x with
  | .optr id o=>some (.optr id (o+off))
  | .iptr cs=>some (.iptr (cs.drop off))
  |_=>none
 |_=>none
def lC(ti:TypeId×TI)(x i:PV):Option PV:=
 match x with
 | .slice es _=>(AN i es.length).bind λk=>(es[k]?).bind λe=>if e.cells.length=ti.2.sz then some (.iptr e.cells)else none
 | .msl id off n _=>(AN i n).bind λk=>some (.optr id (off+k*ti.2.sz))
 |_=>none
def nN(fl:List (Nat×TI))(T:Nat->PV):List PV->List (Nat×Operand)->Option (List PV)
 |cs,[]=>some cs
 |cs,(f,x)::rest=>match fl[f]? with
  |some (off,i)=>if(bO T x).isJunk=false/\(bO T x).cells.length=i.sz/\off+i.sz<=cs.length then nN fl T (cP cs off ((bO T x).cells.map PV.drop1)) rest else none
  |none=>none
def eN(i:TI)(T:Nat->PV):List PV->List (Nat×Operand)->Option (List PV)
 |es,[]=>some es
 |es,(k,x)::rest=>if(bO T x).fits i=true/\k<es.length then eN i T (es.set k (bO T x).drop1) rest else none
abbrev pH:=Option (Nat×AObj)
def pH.app(e:pH)(H:List AObj):List AObj:=
 match e with
 |some (id,o)=>H.set id o
 |none=>H
def eH(i:TI)(fresh:Nat)(H:List AObj)(s x:PV):Option (PV×pH):=
 match s,x with
 | .slice es tl, .slice xs _=>
  if xs= []then some (.slice es tl,none)
  else if(es.length+xs.length)*i.bytes<=2^47/\es.length+xs.length<=maxLen/\(∀e∈es,e.cells.length=i.sz)/\(∀e∈xs,e.cells.length=i.sz/\e.cells.all PV.isCell=true)/\0<i.sz then
   match tl with
   | .full=>some (.slice (es++xs) (.tok fresh),some (fresh, .buf (es.length+xs.length) i.sz))
   | .tok id=>match H[id]? with
    |some (.buf n sz)=>if n=es.length/\sz=i.sz then some (.slice (es++xs) (.tok id),some (id, .buf (es.length+xs.length) sz))else none
    |_=>none
   | .none=>none
  else none
 |_,_=>none
def kJ(mt:Bool)(z:PV)(i:TI)(fresh:Nat)(l c:PV):Option (PV×pH):=
 match l,c with
 | .int .i64 l, .int .i64 c=>
  if 0<=l/\l<=c/\c*i.bytes<=2^47/\c<=maxLen/\z.fits i=true/\0<i.sz then
   if mt then some (.msl fresh 0 l.toNat c.toNat,some (fresh, .row ((aQ3 c.toNat z.cells).flatten)))
   else if l=c then some (.slice (aQ3 l.toNat z.drop1) .full,none)
   else some (.slice (aQ3 l.toNat z.drop1) (.tok fresh),some (fresh, .buf l.toNat i.sz))
  else none
 |_,_=>none
def rW(p:PV):Option (PV×pH):=some (p,none)
def dO(P:Program)(fresh:Nat)(T:Nat->PV)(H:List AObj)(b:Builtin)(xs:List Operand)(ts:List TypeId):Option (PV×pH):=
 match b,xs,ts with
 | .len,[x],[t]=>match bO T x with
  | .slice es _=>if(cN P t).isSome then some (.int .i64 es.length,none)else none
  | .msl _ _ n _=>if(cN P t).isSome then some (.int .i64 n,none)else none
  | .str s=>if MC P t then some (.int .i64 s.length,none)else none
  |_=>none
 | .min,[x,y],_=>match bO T x,bO T y with
  | .int .i64 a, .int .i64 b=>some (.int .i64 (min a b),none)
  |_,_=>none
 | .max,[x,y],_=>match bO T x,bO T y with
  | .int .i64 a, .int .i64 b=>some (.int .i64 (max a b),none)
  |_,_=>none
 | .append,[x,y],[t,u]=>(cN P t).bind λei=>(cF P ei.1).bind λz=>if(cN P u).isSome=true/\z.fits ei.2=true then eH ei.2 fresh H (bO T x) (bO T y)else none
 |_,_,_=>none
def aBa(P:Program)(t:TypeId):Option TypeId:=
 match P.underlying t with
 |some (.map k e)=>match P.underlying k with
  |some (.int .i64)=>some e
  |_=>none
 |_=>none
def sY:List (Int×PV)->Int->Nat->Option (Nat×PV)
 | [],_,_=>none
 |e::es,n,j=>if e.1=n then some (j,e.2)else sY es n (j+1)
def aNx(es:List (Int×PV))(n:Int):Option PV:=(sY es n 0).map (·.2)
def aB2(es:List (Int×PV))(n:Int)(v:PV):List (Int×PV):=
 match sY es n 0 with
 |some (i,_)=>es.set i (n,v)
 |none=>es++ [(n,v)]
def DS(ok:Bool)(z:PV):Option PV->PV
 |some v=>if ok then .tup [v, .bool true]else v
 |none=>if ok then .tup [z, .bool false]else z
def kF(P:Program)(H:List AObj)(t:TypeId)(x k:PV)(ok:Bool):Option PV:=
 match x,k with
 | .mapp id, .int .i64 n=>match H[id]? with
  |some (.obj (.mapo es))=>(aBa P t).bind λe=>(cF P e).bind λz=>some (DS ok z (aNx es n))
  |_=>none
 |_,_=>none
def lO(P:Program)(H:List AObj)(t:TypeId)(x k v:PV):Option (Nat×AObj):=
 match x,k with
 | .mapp id, .int .i64 n=>match H[id]? with
  |some (.obj (.mapo es))=>if(aBa P t).isSome=true then some (id, .obj (.mapo (aB2 es n v.drop1)))else none
  |_=>none
 |_,_=>none
def eW(P:Program)(mt:Bool)(fresh:Nat)(T:Nat->PV)(H:List AObj):Op->Option (PV×pH)
 | .move x| .assign x=>some (bO T x,none)
 | .pick c a b=>match bO T c with
  | .bool c=>some (if c then bO T a else bO T b,none)
  |_=>none
 | .alloc e=>(cF P e).bind λz=>if z.isJunk then none else some (.optr fresh 0,some (fresh, .row z.cells))
 | .box e x=>if(bO T x).isJunk then none else some (.optr fresh 0,some (fresh, .row (bO T x).cells))
 | .build t ps=>(kX P t).bind λfl=>(cF P t).bind λz=>if z.isJunk then none else(nN fl T z.cells ps.toList).bind λcs=>some (.agg cs,none)
 | .buildSlice t n ps=>(cN P t).bind λei=>(cF P ei.1).bind λz=>
   if z.fits ei.2=true/\0<ei.2.sz/\n*ei.2.sz<=2^24 then(eN ei.2 T (aQ3 n z) ps.toList).bind λes=>some (.slice es .full,none)else none
 | .load t a=>(cD P t).bind λi=>(iB i H (bO T a)).bind rW
 | .store t a v=>(cD P t).bind λi=>(mP i H (bO T a) (bO T v)).bind λe=>some (.junk,some e)
 | .nilCheck x=>match bO T x with
  | .optr id o=>some (.optr id o,none)
  | .iptr cs=>some (.iptr cs,none)
  |_=>none
 | .binOp op xt x y _=>(dT P op xt (bO T x) (bO T y)).bind rW
 | .unOp op _ x=>(aun op (bO T x)).bind rW
 | .convert s d x=>match bO T x,JK P d with
  | .int _ n,some k=>if(JK P s).isSome then some (.int k (k.wrap n),none)else none
  |_,_=>none
 | .makeFunc f first caps=>some (.fn f (first.toList.map λx=>(bO T x).drop1) (caps.toList.map λx=>(bO T x).drop1),none)
 | .makeSlice t l c=>(cN P t).bind λei=>(cF P ei.1).bind λz=>kJ mt z ei.2 fresh (bO T l) (bO T c)
 | .slice t x lo hi mx=>(jT P T t (bO T x) lo hi mx).bind rW
 | .fieldAddr s x f=>(kX P s).bind λfl=>(tO fl f (bO T x)).bind rW
 | .field s x f=>(kX P s).bind λfl=>(XM fl f (bO T x)).bind rW
 | .indexAddr t x i=>(cN P t).bind λei=>(lC ei (bO T x) (bO T i)).bind rW
 | .index t x i=>match bO T x with
  | .str s=>if MC P t then(AN (bO T i) s.length).bind λk=>(s[k]?).bind λb=>some (.int .u8 b.toNat,none)else none
  |_=>none
 | .extract t i=>match bO T t with
  | .tup vs=>(vs[i]?).bind rW
  |_=>none
 | .lookup t x k ok=>(kF P H t (bO T x) (bO T k) ok).bind rW
 | .mapUpdate t x k v=>(lO P H t (bO T x) (bO T k) (bO T v)).bind λe=>some (.junk,some e)
 | .makeMap t none=>(aBa P t).bind λ_=>some (.mapp fresh,some (fresh, .obj (.mapo [])))
 | .call c=>match c.callee with
  | .builtin b=>dO P fresh T H b c.args.toList c.argTypes.toList
  |_=>none
 |_=>none
theorem CD{P:Program}{w:World}:(program).run P w= .ok P w:=rfl
theorem aS{P:Program}{w:World}{t:TypeId}{d:TypeDesc}(h:P.underlying t=some d):(underlying t).run P w= .ok d w:=by
 simp only[underlying,aQ1,CD,aQ2,h,aQ4]
theorem oI{P:Program}{w:World}{t:TypeId}{i:TypeInfo}(h:P.info? t=some i):(typeInfo t).run P w= .ok i w:=by
 simp only[typeInfo,aQ1,CD,aQ2,h,aQ4]
theorem dC{P:Program}{w:World}{t:TypeId}{i:TypeInfo}(h:P.info? t=some i):(sizeOf t).run P w= .ok i.size w:=by
 simp only[sizeOf,aQ1,oI h,aQ2,aQ4]
theorem hO{P:Program}{w:World}{t:TypeId}{i:TypeInfo}{z:Value}(h:P.info? t=some i)(hz:i.zero=some z):(zeroValue t).run P w= .ok z w:=by
 simp only[zeroValue,aQ1,oI h,aQ2,hz,aQ4]
theorem BB{P:Program}{w:World}{t:TypeId}{d:TypeDesc}(h:P.underlying t=some d):(isAgg t).run P w= .ok (uN d) w:=by
 simp only[isAgg,aQ1,aS h,aQ2];cases d<;>rfl
theorem bQ{P:Program}{t:TypeId}{i:TI}(h:cD P t=some i):∃d f,P.underlying t=some d/\P.info? t=some f/\i=⟨uN d,f.size,f.bytes⟩:=by
 unfold cD at h
 split at h
 ·rename_i d f h1 h2;exact⟨d,f,h1,h2,by cases h;rfl⟩
 ·cases h
theorem eI{P:Program}{t:TypeId}{z:PV}(h:cF P t=some z):∃f v,P.info? t=some f/\f.zero=some v/\z=aU v:=by
 unfold cF at h;cases h1:P.info? t with
 |none=>rw[h1]at h;cases h
 |some f=>
  rw[h1]at h;cases h2:f.zero with
  |none=>simp[h2]at h
  |some v=>simp[h2]at h;exact⟨f,v,rfl,h2,h.symm⟩
theorem cX{P:Program}{t e:TypeId}{i:TI}(h:cN P t=some (e,i)):P.underlying t=some (.slice e)/\cD P e=some i:=by
 unfold cN at h
 split at h
 ·rename_i e' h1;cases h2:cD P e' with
  |none=>simp[h2]at h
  |some j=>simp[h2]at h;obtain⟨rfl,rfl⟩:=h;exact⟨h1,h2⟩
 ·cases h
structure fT(P:Program)(E:aE)(s:Sem Next)(v:PV)(e:pH):Prop where
 out:∃E' val,(s.run P E.w= .ok (.value val) E'.w\/(s.run P E.w= .ok .skip E'.w/\val=undef))/\E.le E'/\E'.Ok/\E'.H=e.app E.H/\aM E'.view val v
theorem fT.val{P:Program}{E:aE}(h:E.Ok){s:Sem Next}{val:Value}{v:PV}(hs:s.run P E.w= .ok (.value val) E.w)(hv:aM E.view val v):fT P E s v none:=
 ⟨E,val, .inl hs, .refl E,h,rfl,hv⟩
theorem nK{V:cQ}{arr:Array Value}{cs:List PV}(hr:∀i (h:i<cs.length),aM V (arr.getD i undef) cs[i]):
  ∀i (h:i<(cs.map PV.drop1).length),aM V (arr.getD i undef) (cs.map PV.drop1)[i]:=by
 intro i h;simp only[aQg];exact(hr i (by simpa using h)).drop1
inductive Cells(E:aE):Addr->List PV->Prop
 |row {id off:Nat} {cs:List PV} (h:E.H[id]? =some (.row cs)):Cells E ⟨E.ρ id,off,none⟩ (cs.drop off)
 |imm {a:Addr} {cs:List PV} (h:aM E.view (.pointer (some a)) (.iptr cs)):Cells E a cs
theorem Cells.get{E:aE}(ho:E.Ok){a:Addr}{cs:List PV}(h:Cells E a cs):∀j (hj:j<cs.length),∃v,E.w.cell? (a.add j)=some v/\aM E.view v cs[j]:=by
 intro j hj;cases h with
 | @row id off cs h=>
  obtain⟨arr,elem,h1,h2,h3,h4⟩:=ho.rows id _ h;simp only[aQ5]at hj;refine⟨arr.getD (off+j) undef, ?_, ?_⟩
  ·rw[dD,jZ h1,aQm,aQr z8];rfl
  ·rw[List.getElem_drop];exact h3 _ _
 |imm h=>
  cases h with
  |iptr _ _ vs hc hr=>exact⟨vs j,aE.cell_stable (hc j hj),hr j hj⟩
theorem Cells.loadCells{P:Program}{E:aE}(ho:E.Ok){a:Addr}{cs:List PV}(h:Cells E a cs){n:Nat}(hn:n<=cs.length):
  ∃arr,(loadCells a n).run P E.w= .ok arr E.w/\arr.size=n/\∀i (h:i<(cs.take n).length),aM E.view (arr.getD i undef) (cs.take n)[i]:=by
 let f:Nat->Value:=λj=>(E.w.cell? (a.add j)).getD undef
 have hf:∀j,j<n->E.w.cell? (a.add j)=some (f j):=by
  intro j hj;obtain⟨v,hv,_⟩:=h.get ho j z8;simp only[f,hv,aQs]
 refine⟨_,run_loadCells E.w a n f hf,z6,λi hi=> ?_⟩;simp only[aQ6]at hi;obtain⟨v,hv,hr⟩:=h.get ho i z8;rw[List.getElem_take,aQm];simp only[aQ7,aQ8,List.getElem?_range (by omega:i<n),aQz,aQs];have:f i=v:=by simp only[f,hv,aQs]
 rw[this];exact hr
theorem Cells.loadVar{P:Program}{E:aE}(ho:E.Ok){a:Addr}{cs:List PV}(h:Cells E a cs){t:TypeId}{i:TI}(hi:cD P t=some i):
  (i.agg=true->i.sz<=cs.length->∃arr,(loadVar t a).run P E.w= .ok (.agg arr) E.w/\aM E.view (.agg arr) (.agg (cs.take i.sz)))/\
  (i.agg=false->∀p,cs[0]? =some p->∃v,(loadVar t a).run P E.w= .ok v E.w/\aM E.view v p):=by
 obtain⟨d,f,h1,h2,rfl⟩:=bQ hi;constructor
 ·intro hagg hsz;simp only at hagg hsz;obtain⟨arr,e1,e2,e3⟩:=h.loadCells (P:=P) ho hsz;refine⟨arr, ?_, .agg _ _ (by rw[e2];simp;omega) e3⟩;simp only[Go.loadVar,aQ1,BB h1,aQ2,hagg,if_true,dC h2,e1,aQ4]
 ·intro hagg p hp;simp only at hagg;have hl:0<cs.length:=by
   rcases Nat.eq_zero_or_pos cs.length with e|e
   ·rw[aQv z8]at hp;cases hp
   ·exact e
  obtain⟨v,hv,hr⟩:=h.get ho 0 hl;rw[uT]at hv;refine⟨v, ?_, ?_⟩
  ·simp only[Go.loadVar,aQ1,BB h1,aQ2,hagg,aQ9,if_false,run_load,hv]
  ·rw[aRa hl]at hp;cases hp;exact hr
theorem aM.optr_inv{V:cQ}{v:Value}{id off:Nat}(h:aM V v (.optr id off)):v= .pointer (some ⟨V.rho id,off,none⟩)/\V.born id:=by
 cases h;exact⟨rfl,‹_›⟩
section ops
variable{P:Program}{E:aE}{N:Nat}{a:Act}{T:Nat->PV}(ho:E.Ok)(ht:eU E.view N a T)
include ho ht
theorem BO{t:TypeId}{x:Operand}(hx:aQ N x=true){i:TI}(hi:cD P t=some i){v:PV}(hv:iB i E.H (bO T x)=some v):
  ∃val,(Instr.loadAt t (a.eval x)).run P E.w= .ok val E.w/\aM E.view val v:=by
 have hr:=aO ht x hx;generalize a.eval x=ax at hr;generalize bO T x=px at hr hv;unfold iB at hv
 split at hv
 ·rename_i id off;obtain⟨rfl,hb⟩:=hr.optr_inv
  split at hv
  ·rename_i cs hcs;have hc:Cells E ⟨E.ρ id,off,none⟩ (cs.drop off):=.row hcs;obtain⟨h1,h2⟩:=hc.loadVar (P:=P) ho hi
   split at hv
   ·rename_i hagg
    split at hv
    ·rename_i hl;cases hv;obtain⟨arr,e1,e2⟩:=h1 hagg (by simp;omega);refine⟨_,by simpa[Instr.loadAt,Instr.sureAddr,aE.view]using e1, ?_⟩;cases e2 with
     |agg _ _ hl hr=>exact .agg _ _ (by simpa using hl) (nK hr)
    ·cases hv
   ·rename_i hagg;obtain⟨v',e1,e2⟩:=h2 (by simpa using hagg) v (by rw[List.getElem?_drop];simpa using hv);exact⟨_,by simpa[Instr.loadAt,Instr.sureAddr,aE.view]using e1,e2⟩
  ·cases hv
 ·rename_i cs;cases hr with
  |iptr ad cs vs hc hr=>
   have hcl:Cells E ad cs:=.imm (.iptr ad cs vs hc hr);obtain⟨h1,h2⟩:=hcl.loadVar (P:=P) ho hi
   split at hv
   ·rename_i hagg
    split at hv
    ·rename_i hl;cases hv;obtain⟨arr,e1,e2⟩:=h1 hagg hl;exact⟨_,by simpa[Instr.loadAt,Instr.sureAddr]using e1,e2⟩
    ·cases hv
   ·rename_i hagg;obtain⟨v',e1,e2⟩:=h2 (by simpa using hagg) v hv;exact⟨_,by simpa[Instr.loadAt,Instr.sureAddr]using e1,e2⟩
 ·cases hv
end ops
theorem aM.isCell{V:cQ}{v:Value}{p:PV}(h:aM V v p)(hp:p.isCell=true):Value.isCell v=true:=by
 cases h<;>first|rfl| (simp[PV.isCell]at hp;done)
theorem aM.not_junk_cells{V:cQ}{v:Value}{p:PV}(h:aM V v p)(hj:p.isJunk=false):
  v.cells.size=p.cells.length/\∀i (h:i<p.cells.length),aM V (v.cells.getD i undef) (p.cells[i]):=
 h.cells (by rintro rfl;cases hj)
theorem HQ{H:List AObj}{id:Nat}{a b:AObj}:(H.set id a).set id b=H.set id b:=by
 simp
theorem EH{H:List AObj}{id:Nat}{o:AObj}(h:H[id]? =some o):H.set id o=H:=by
 apply List.ext_getElem?;intro j
 by_cases e:id=j
 ·subst e;have hl:id<H.length:=by
   rcases aQi id H.length with hl|hl
   ·exact hl
   ·rw[aQv hl]at h;cases h
  rw[aQx hl,h]
 ·rw[aQy e]
theorem lG{α:Type}{H:List α}{id:Nat}{o:α}(h:H[id]? =some o):id<H.length:=by
 rcases aQi id H.length with hl|hl
 ·exact hl
 ·rw[aQv hl]at h;cases h
theorem uE{P:Program}{id off:Nat}:∀(vs:List Value) (ps:List PV) (i:Nat) (E:aE) (cs:List PV),E.Ok->E.H[id]? =some (.row cs)->vs.length=ps.length->
  (∀j (h:j<ps.length),aM E.view (vs.getD j undef) ps[j])->ps.all PV.isCell=true->off+i+vs.length<=cs.length->
  ∃E',(storeCells ⟨E.ρ id,off,none⟩ vs i).run P E.w= .ok () E'.w/\E.le E'/\E'.Ok/\E'.H=E.H.set id (.row (cP cs (off+i) ps))
 | [],ps,i,E,cs,ho,hi,hl,hr,hc,hb=>by
  obtain rfl:ps= []:=by cases ps with|nil=>rfl|cons _ _=>simp at hl
  exact⟨E,rfl, .refl E,ho,by rw[cP,EH hi]⟩
 |v::vs,ps,i,E,cs,ho,hi,hl,hr,hc,hb=>by
  match ps,hl with
  |p::ps,hl=>
   simp only[aQ0]at hl hb hr;have hv:aM E.view v p:=hr 0 z8;simp only[aQc,aQd]at hc;obtain⟨arr,elem,h1,h2,h3,h4⟩:=ho.rows id cs hi;have hle:=aE.setRow_le ho hi (off+i) (v:=v) (p:=p);have hok:=aE.Ok.setRow ho hi (off+i) hv;have hrun:(store ((⟨E.ρ id,off,none⟩:Addr).add i) v).run P E.w= .ok () (E.setRow id (off+i) v cs p).w:=by
    rw[DR (hv.isCell hc.1) ⟨arr[off+i]'z8, ?_⟩ ?_]
    ·rw[dD];rfl
    ·rw[dD,jZ h1,aQr]
    ·rw[dD];exact CY h1
   obtain⟨E',e1,e2,e3,e4⟩:=uE (P:=P) (id:=id) (off:=off) vs ps (i+1) (E.setRow id (off+i) v cs p) (cs.set (off+i) p) hok
    (by simp only[aE.setRow];exact aQx (lG hi)) z8
    (λj hj=>by have:=hr (j+1) z8;simp only[List.getD_cons_succ,List.getElem_cons_succ]at this;exact this.mono hle.view) hc.2 (by simp;omega)
   refine⟨E', ?_,hle.trans e2,e3, ?_⟩
   ·simp only[storeCells,aQ1,hrun,aQ2];exact e1
   ·rw[e4];simp only[aE.setRow,HQ,cP,Nat.add_assoc]
section ops
variable{P:Program}{E:aE}{N:Nat}{a:Act}{T:Nat->PV}(ho:E.Ok)(ht:eU E.view N a T)
include ho ht
theorem KS{t:TypeId}{x y:Operand}(hx:aQ N x=true)(hy:aQ N y=true){i:TI}(hi:cD P t=some i){e:Nat×AObj}
  (hv:mP i E.H (bO T x) (bO T y)=some e):
  ∃E',(Instr.storeAt t (a.eval x) (a.eval y)).run P E.w= .ok () E'.w/\E.le E'/\E'.Ok/\E'.H=E.H.set e.1 e.2:=by
 have hr:=aO ht x hx;have hr':=aO ht y hy;generalize a.eval x=ax at hr;generalize bO T x=px at hr hv;generalize a.eval y=ay at hr';generalize bO T y=py at hr' hv;unfold mP at hv
 split at hv
 ·rename_i id off;obtain⟨rfl,hb⟩:=hr.optr_inv
  split at hv
  ·rename_i cs hcs
   split at hv
   ·rename_i hl;obtain⟨hl1,hl2,hl3⟩:=hl;cases hv;obtain⟨d,f,h1,h2,rfl⟩:=bQ hi;simp only at hl1 hl2;have hj:py.isJunk=false:=by
     cases py<;>first|rfl| (simp[PV.cells,PV.isCell]at hl3;done)
    obtain⟨c1,c2⟩:=hr'.not_junk_cells hj;obtain⟨E',e1,e2,e3,e4⟩:=uE (P:=P) (id:=id) (off:=off) ay.cells.toList py.cells 0 E cs ho hcs (by simpa using c1)
     (λj hj=>by
      have:=c2 j hj;rw[aQm]at this;rw[aRb,aRc];exact this) hl3 (by simp[c1];omega)
    refine⟨E', ?_,e2,e3,by rw[e4];rfl⟩;simp only[Instr.storeAt,Instr.sureAddr,aQ1,aQ4,aQ2,storeVar,dC h2];rw[if_neg (by rw[c1];simp[hl2])];exact e1
   ·cases hv
  ·cases hv
 ·cases hv
omit ht in
theorem KJ{t:TypeId}{fresh:Nat}(hf:E.H[fresh]? =some .unborn){z:PV}(hz:cF P t=some z)(hj:z.isJunk=false):
  ∃E' val,(Instr.alloc t true (.tuple #[])).run P E.w= .ok val E'.w/\E.le E'/\E'.Ok/\E'.H=E.H.set fresh (.row z.cells)/\aM E'.view val (.optr fresh 0):=by
 obtain⟨f,v,h1,h2,rfl⟩:=eI hz;obtain⟨c1,c2⟩:=(dA E.view v).not_junk_cells hj;refine⟨E.newRow fresh v.cells t (aU v).cells, .pointer (some ⟨E.w.heap.size,0,none⟩), ?_,aE.newRow_le ho hf _ _ _,aE.Ok.newRow ho hf _ _ _ c1 c2,rfl, ?_⟩
 ·simp only[Instr.alloc,aQ1,hO h1 h2,aQ2,newVar,newRow,run_newObj,aQ4];rfl
 ·have:=aM.optr (V:=(E.newRow fresh v.cells t (aU v).cells).view) fresh 0 ⟨.row (aU v).cells,by simp only[aE.newRow];exact aQx (lG hf),z6⟩;simpa[aE.view,aE.newRow]using this
theorem TS{t:TypeId}{fresh:Nat}(hf:E.H[fresh]? =some .unborn){x:Operand}(hx:aQ N x=true)(hj:(bO T x).isJunk=false):
  ∃E' val,(Instr.box t (a.eval x)).run P E.w= .ok val E'.w/\E.le E'/\E'.Ok/\E'.H=E.H.set fresh (.row (bO T x).cells)/\aM E'.view val (.optr fresh 0):=by
 have hr:=aO ht x hx;generalize a.eval x=v at hr;generalize bO T x=p at hr hj;obtain⟨c1,c2⟩:=hr.not_junk_cells hj;refine⟨E.newRow fresh v.cells t p.cells, .pointer (some ⟨E.w.heap.size,0,none⟩), ?_,aE.newRow_le ho hf _ _ _,aE.Ok.newRow ho hf _ _ _ c1 c2,rfl, ?_⟩
 ·simp only[Instr.box,aQ1,aQ2,newVar,newRow,run_newObj,aQ4];rfl
 ·have:=aM.optr (V:=(E.newRow fresh v.cells t p.cells).view) fresh 0 ⟨.row p.cells,by simp only[aE.newRow];exact aQx (lG hf),z6⟩;simpa[aE.view,aE.newRow]using this
end ops
def RL(V:cQ)(arr:Array Value)(cs:List PV):Prop:=arr.size=cs.length/\∀i (h:i<cs.length),aM V (arr.getD i undef) cs[i]
theorem RL.set{V:cQ}{arr:Array Value}{cs:List PV}(h:RL V arr cs)(k:Nat){v:Value}{p:PV}(hv:aM V v p):RL V (arr.setIfInBounds k v) (cs.set k p):=by
 refine⟨by simp[h.1],λi hi=> ?_⟩;simp only[lS]at hi;rw[aQm]
 by_cases e:k=i
 ·subst e;rw[aQn (by rw[h.1];exact hi)];simpa using hv
 ·rw[aQo e,List.getElem_set_ne e,<-aQm];exact h.2 i hi
theorem nZ{V:cQ}:∀(vs:List Value) (ps:List PV) (off s:Nat) (arr:Array Value) (cs:List PV),RL V arr cs->vs.length=ps.length->(∀j (h:j<ps.length),aM V (vs.getD j undef) ps[j])->
  RL V ((vs.zipIdx s).foldl (λcs (c,j)=>cs.setIfInBounds (off+j) c) arr) (cP cs (off+s) ps)
 | [],ps,off,s,arr,cs,h,hl,hr=>by
  obtain rfl:ps= []:=by cases ps with|nil=>rfl|cons _ _=>simp at hl
  exact h
 |v::vs,ps,off,s,arr,cs,h,hl,hr=>by
  match ps,hl with
  |p::ps,hl=>
   simp only[aQ0]at hl hr;simp only[List.zipIdx_cons,List.foldl_cons,cP];have:=nZ vs ps off (s+1) (arr.setIfInBounds (off+s) v) (cs.set (off+s) p) (h.set _ (hr 0 z8)) z8
    (λj hj=>by have:=hr (j+1) z8;simpa using this)
   rw[<-Nat.add_assoc]at this;exact this
theorem CB{P:Program}{w:World}:∀(fs:List Field) (fl:List (Nat×TI)),(fs.mapM λf=>(cD P f.type).map λi=>(f.offset,i))=some fl->(fs.mapM (m:=Sem) λf=>do pure (f.offset,<-sizeOf f.type)).run P w= .ok (fl.map λx=>(x.1,x.2.sz)) w
  | [],fl,h=>by
    simp at h;subst h;rfl
  |f::fs,fl,h=>by
    rw[List.mapM_cons]at h⊢;cases h1:cD P f.type with
    |none=>rw[h1]at h;simp at h
    |some i=>
      cases h2:fs.mapM λf=>(cD P f.type).map λi=>(f.offset,i)with
      |none=>rw[h1]at h;simp[h2]at h
      |some fl'=>
        rw[h1]at h;simp[h2]at h;subst h;have ih:=CB (w:=w) fs fl' h2;obtain⟨d,g,e1,e2,rfl⟩:=bQ h1;simp only[aQ1,dC e2,aQ2,aQ4,ih,aRd]
theorem CI{P:Program}{t:TypeId}{fl:List (Nat×TI)}(h:kX P t=some fl):∃fs,P.underlying t=some (.struct fs)/\(fs.toList.mapM λf=>(cD P f.type).map λi=>(f.offset,i))=some fl:=by
  unfold kX at h
  split at h
  · rename_i fs h1;exact⟨fs,h1,h⟩
  · cases h
section ops
variable{P:Program}{E:aE}{N:Nat}{a:Act}{T:Nat->PV}(ht:eU E.view N a T)
include ht in
theorem CV(fl:List (Nat×TI)):∀(ps:List (Nat×Operand)) (arr:Array Value) (cs cs':List PV),RL E.view arr cs->ps.all (λx=>aQ N x.2)=true->nN fl T cs ps=some cs'->∃arr',Instr.fill ((fl.map λx=>(x.1,x.2.sz)).toArray[·]?) arr (ps.map λ(i,x)=>(i,a.eval x))=some arr'/\RL E.view arr' cs'
  | [],arr,cs,cs',h,_,hb=>by cases hb;exact⟨arr,rfl,h⟩
  | (f,x)::rest,arr,cs,cs',h,hok,hb=>by
    simp only[aQc,aQd]at hok;unfold nN at hb
    split at hb
    · rename_i off i hf
      split at hb
      · rename_i hc
        obtain⟨hc1,hc2,hc3⟩:=hc;have hr:=aO ht x hok.1;obtain⟨c1,c2⟩:=hr.not_junk_cells hc1;have h':=nZ (V:=E.view) (a.eval x).cells.toList ((bO T x).cells.map PV.drop1) off 0 arr cs h (by simp[c1]) (λj hj=>by
          have:=c2 j (by simpa using hj);rw[aQm]at this;rw[aRb,aRc];simp only[aQg];exact this.drop1)
        rw[Nat.add_zero]at h';obtain⟨arr',e1,e2⟩:=CV fl rest _ _ cs' h' hok.2 hb;refine⟨arr', ?_,e2⟩;simp only[aRd,Instr.fill];simp only[aQ7,aQ8,hf,aQz];rw[if_neg]
        · rw[<-e1]
          simp only[aQ7,aQ8];congr 1;rw[<-Array.foldl_toList,Array.toList_zipIdx]
        · have c3:(a.eval x).cells.size=i.sz:=c1.trans hc2
          have c4:=h.1;rw[c3,c4];simp;omega
      · cases hb
    · cases hb
include ht in
theorem NE{t:TypeId}{ps:Array (Nat×Operand)}(hok:ps.toList.all (λx=>aQ N x.2)=true){fl:List (Nat×TI)}(hf:kX P t=some fl){z:PV}(hz:cF P t=some z)(hj:z.isJunk=false){cs:List PV}(hb:nN fl T z.cells ps.toList=some cs):∃val,(Instr.build t (ps.map λ(i,x)=>(i,a.eval x))).run P E.w= .ok val E.w/\aM E.view val (.agg cs):=by
  obtain⟨fs,h1,h2⟩:=CI hf;obtain⟨f,v,h3,h4,rfl⟩:=eI hz;have hr:=CB (P:=P) (w:=E.w) fs.toList fl h2;obtain⟨c1,c2⟩:=(dA E.view v).not_junk_cells hj;obtain⟨arr',e1,e2⟩:=CV ht fl ps.toList v.cells (aU v).cells cs ⟨c1,c2⟩ hok hb;refine⟨.agg arr', ?_, .agg _ _ e2.1 e2.2⟩;simp only[Instr.build,aQ1,hO h3 h4,aQ2,aS h1,Array.mapM_eq_mapM_toList,Sem.run_map,hr,Array.toList_map];simp only[e1,aQ4]
end ops
theorem PV.fits_spec{i:TI}{p:PV}(h:p.fits i=true):p.cells.length=i.sz/\p.isJunk=false:=by
  unfold PV.fits at h;simp only[aQd,decide_eq_true_eq]at h;refine⟨h.1, ?_⟩;cases p<;>first|rfl| (simp at h;done)
theorem PV.drop1_cells_length(p:PV):p.drop1.cells.length=p.cells.length:=by
  cases p<;>first|rfl|simp[PV.drop1,PV.cells]
theorem PV.drop1_isJunk(p:PV):p.drop1.isJunk=p.isJunk:=by cases p<;>rfl
theorem aM.drop1_cells{V:cQ}{v:Value}{p:PV}(h:aM V v p)(hj:p.isJunk=false):v.cells.size=p.drop1.cells.length/\∀i (h:i<p.drop1.cells.length),aM V (v.cells.getD i undef) (p.drop1.cells[i]):=
  h.drop1.not_junk_cells (by rw[PV.drop1_isJunk];exact hj)
def aH(es:List PV):List PV:=(es.map PV.cells).flatten
theorem jI{sz:Nat}:∀(es:List PV),(∀e∈es,e.cells.length=sz)->∀i j,(hi:i<es.length)->(hj:j<sz)->(aH es)[i*sz+j]? =(es[i].cells)[j]?
  | [],_,i,j,hi,_=>absurd hi z6
  |e::es,h,i,j,hi,hj=>by
    have he:=h e z6;simp only[aH,aRd,List.flatten_cons];cases i with
    |zero=>simp only[Nat.zero_mul,aRe,List.getElem_cons_zero];rw[aQt z8]
    |succ i=>
      rw[aQu (by rw[he,Nat.succ_mul];omega),he];have:=jI (sz:=sz) es (λx hx=>h x (by simp[hx])) i j (by simpa using hi) hj;rw[show(i+1)*sz+j-sz=i*sz+j by rw[Nat.succ_mul];omega];simpa[aH]using this
theorem bL{sz:Nat}:∀(es:List PV),(∀e∈es,e.cells.length=sz)->(aH es).length=es.length*sz
  | [],_=>by simp[aH]
  |e::es,h=>by
    have he:=h e z6;have:=bL (sz:=sz) es (λx hx=>h x (by simp[hx]));simp only[aH,aRd,List.flatten_cons,aRf,aQ0]at this⊢;rw[this,he,Nat.succ_mul];omega
theorem DY(sz:Nat):∀(vs cs:List PV) (off k:Nat),off+vs.length<=cs.length->(cP cs off vs)[k]? =if off<=k/\k<off+vs.length then vs[k-off]? else cs[k]?
  | [],cs,off,k,_=>by rw[cP,if_neg z6]
  |v::vs,cs,off,k,h=>by
    simp only[aQ0]at h;rw[cP,DY sz vs _ (off+1) k (by simp;omega)]
    by_cases e:k=off
    · subst e
      rw[if_neg z8,if_pos z6,aQx z8];simp
    · by_cases c:off+1<=k/\k<off+1+vs.length
      · rw[if_pos c,if_pos (by simp only[aQ0];omega),show k-off=(k- (off+1))+1 by omega,List.getElem?_cons_succ]
      · rw[if_neg c,if_neg (by simp only[aQ0];omega),aQy (λq=>e q.symm)]
theorem wX{sz:Nat}(es:List PV)(h:∀e∈es,e.cells.length=sz)(k:Nat)(hk:k<es.length)(v:PV)(hv:v.cells.length=sz):cP (aH es) (k*sz) v.cells=aH (es.set k v):=by
  have hfl:=bL es h;have h':∀e∈es.set k v,e.cells.length=sz:=by
    intro e he;rcases List.mem_or_eq_of_mem_set he with he|rfl
    · exact h e he
    · exact hv
  have hfl':=bL _ h';have hks:(k+1)*sz<=es.length*sz:=aRg _ hk;rw[Nat.succ_mul]at hks;apply List.ext_getElem?;intro n;rw[DY sz _ _ _ _ (by rw[hfl,hv];omega),hv]
  by_cases hn:n<es.length*sz
  · have hsz:0<sz:=by
      rcases Nat.eq_zero_or_pos sz with e|e; · subst e;simp at hn
      · exact e
    have hq:n/sz<es.length:=(Nat.div_lt_iff_lt_mul hsz).2 hn;have hm:=Nat.mod_lt n hsz;have hdm:n=n/sz*sz+n%sz:=by rw[Nat.mul_comm];exact(Nat.div_add_mod n sz).symm
    have g2:=jI (es.set k v) h' (n/sz) (n%sz) (by simpa using hq) hm;rw[<-hdm]at g2;rw[g2]
    by_cases e:n/sz=k
    · subst e
      rw[if_pos z8];simp only[List.getElem_set_self];congr 1;omega
    · rw[if_neg]
      · have g1:=jI es h (n/sz) (n%sz) hq hm
        rw[<-hdm]at g1;rw[g1,List.getElem_set_ne (λq=>e q.symm)]
      · rintro⟨q1,q2⟩
        apply e;apply Nat.le_antisymm
        · rw[<-Nat.lt_succ_iff];exact(Nat.div_lt_iff_lt_mul hsz).2 (by rw[Nat.succ_mul];omega)
        · exact(Nat.le_div_iff_mul_le hsz).2 q1
  · rw[if_neg z8,aQv z8,aQv (by rw[hfl',lS];omega)]
theorem mE{V:cQ}{b n:Nat}{arr:Array Value}{es:List PV}{sz:Nat}(hcell:∀k,k<arr.size->V.cell ⟨b,k,none⟩=some (arr.getD k undef))(hes:∀e∈es,e.cells.length=sz)(hrl:RL V arr (aH es))(hn:es.length=n)(hm:n<=maxLen):aM V (.slice (some ⟨b,0,none⟩) n n) (.slice es .full):=by
  have hfl:=bL es hes;refine .slice _ n n sz es .full (λi j=>arr.getD (i*sz+j) undef) hn (aQj _) hm (λi h=>hes _ (aRh h)) ?_ ?_ rfl
  · intro i j hi hj
    rw[dD,aRe];apply hcell;rw[hrl.1,hfl];have:(i+1)*sz<=es.length*sz:=aRg _ z8;rw[Nat.succ_mul]at this;omega
  · intro i j hi hj
    have hl:=hes _ (aRh hi);have hj':j<sz:=z8
    have hk:i*sz+j<(aH es).length:=by
      rw[hfl];have:(i+1)*sz<=es.length*sz:=aRg _ z8;rw[Nat.succ_mul]at this;omega
    have h1:=hrl.2 _ hk;have h2:=jI es hes i j hi hj';rw[aRa hk,aRa hj]at h2;simp only[Option.some.injEq]at h2;rw[h2]at h1;exact h1
theorem RL.mono{V V':cQ}(h:V.le V'){arr cs}(r:RL V arr cs):RL V' arr cs:=⟨r.1,λi hi=>(r.2 i hi).mono h⟩
theorem qV{E:aE}{arr:Array Value}{elem:TypeId}:∀k,k<arr.size->(E.newFixed (.cells arr elem)).view.cell ⟨E.w.heap.size,k,none⟩=some (arr.getD k undef):=by
  intro k hk;refine aE.cell_of (by simp[aE.newFixed,sD.stable]) ?_;have:(E.newFixed (.cells arr elem)).w.heap[E.w.heap.size]? =some (.cells arr elem (0,0)):=heap_alloc_new _ _;rw[jZ this,aQm,aQr hk];rfl
theorem nT{V:cQ}(z:Value)(hj:(aU z).isJunk=false)(n:Nat):RL V ((Array.range (n*z.cells.size)).map (z.cells[· %z.cells.size]!)) (aH (aQ3 n (aU z))):=by
  obtain⟨c1,c2⟩:=(dA V z).not_junk_cells hj;have hes:∀e∈aQ3 n (aU z),e.cells.length=z.cells.size:=by
    intro e he;rw[(List.mem_replicate.1 he).2,c1]
  have hfl:=bL _ hes;rw[List.length_replicate]at hfl;refine⟨by simp[hfl],λk hk=> ?_⟩;rw[hfl]at hk;have hsz:0<z.cells.size:=by
    rcases Nat.eq_zero_or_pos z.cells.size with e|e
    · rw[e]at hk;simp at hk
    · exact e
  have hq:k/z.cells.size<n:=(Nat.div_lt_iff_lt_mul hsz).2 hk;have hm:=Nat.mod_lt k hsz;have g:=jI _ hes (k/z.cells.size) (k%z.cells.size) (by simpa using hq) hm;rw[show k/z.cells.size*z.cells.size+k%z.cells.size=k by rw[Nat.mul_comm];exact Nat.div_add_mod k _]at g;have hk':k<(aH (aQ3 n (aU z))).length:=by rw[hfl];exact hk
  simp only[List.getElem_replicate]at g;rw[aRa hk',aRa (by rw[<-c1];exact hm)]at g;simp only[Option.some.injEq]at g;rw[g];have:=c2 _ (by rw[<-c1];exact hm);rw[aQm]at this⊢;simp only[Array.getElem?_map,Array.getElem?_range,if_pos hk];simp only[aQz,aQs];rw[getElem!_pos z.cells _ hm];rw[aQr hm]at this;exact this
section ops
variable{P:Program}{E:aE}{N:Nat}{a:Act}{T:Nat->PV}(ht:eU E.view N a T)
include ht in
theorem mX(i:TI):∀(ps:List (Nat×Operand)) (arr:Array Value) (es es':List PV),RL E.view arr (aH es)->(∀e∈es,e.cells.length=i.sz)->ps.all (λx=>aQ N x.2)=true->eN i T es ps=some es'->∃arr',Instr.fill (λk=>some (k*i.sz,i.sz)) arr (ps.map λ(i,x)=>(i,a.eval x))=some arr'/\RL E.view arr' (aH es')/\(∀e∈es',e.cells.length=i.sz)/\es'.length=es.length
  | [],arr,es,es',h,hs,_,hb=>by cases hb;exact⟨arr,rfl,h,hs,rfl⟩
  | (k,x)::rest,arr,es,es',h,hs,hok,hb=>by
    simp only[aQc,aQd]at hok;unfold eN at hb
    split at hb
    · rename_i hc
      obtain⟨hc1,hk⟩:=hc;obtain⟨hc2,hc3⟩:=PV.fits_spec hc1;have hr:=aO ht x hok.1;obtain⟨c1,c2⟩:=hr.drop1_cells hc3;have c3:(a.eval x).cells.size=i.sz:=by rw[c1,PV.drop1_cells_length,hc2]
      have hdl:(bO T x).drop1.cells.length=i.sz:=by rw[PV.drop1_cells_length,hc2]
      have h':=nZ (V:=E.view) (a.eval x).cells.toList (bO T x).drop1.cells (k*i.sz) 0 arr (aH es) h (by simp[c1]) (λj hj=>by
        have:=c2 j hj;rw[aQm]at this;rw[aRb,aRc];exact this)
      rw[Nat.add_zero,wX es hs k hk _ hdl]at h';have hs':∀e∈es.set k (bO T x).drop1,e.cells.length=i.sz:=by
        intro e he;rcases List.mem_or_eq_of_mem_set he with he|rfl
        · exact hs e he
        · exact hdl
      obtain⟨arr',e1,e2,e3,e4⟩:=mX i rest _ _ es' h' hs' hok.2 hb;refine⟨arr', ?_,e2,e3,by rw[e4];simp⟩;simp only[aRd,Instr.fill];have hfl:=bL es hs;have hks:(k+1)*i.sz<=es.length*i.sz:=aRg _ hk;rw[Nat.succ_mul]at hks;rw[if_neg]
      · rw[<-e1]
        congr 1;rw[<-Array.foldl_toList,Array.toList_zipIdx]
      · rw[c3,h.1,hfl];simp;omega
    · cases hb
include ht in
theorem yJ(ho:E.Ok){t:TypeId}{n:Nat}{ps:Array (Nat×Operand)}(hok:ps.toList.all (λx=>aQ N x.2)=true){ei:TypeId×TI}(hf:cN P t=some ei){z:PV}(hz:cF P ei.1=some z)(hfit:z.fits ei.2=true)(hs0:0<ei.2.sz)(hsz:n*ei.2.sz<=2^24){es:List PV}(hb:eN ei.2 T (aQ3 n z) ps.toList=some es):∃E' val,(Instr.buildSlice t n (ps.map λ(i,x)=>(i,a.eval x))).run P E.w= .ok val E'.w/\E.le E'/\E'.Ok/\E'.H=E.H/\aM E'.view val (.slice es .full):=by
  obtain⟨e,i⟩:=ei;obtain⟨h1,h2⟩:=cX hf;obtain⟨d,f,h3,h4,rfl⟩:=bQ h2;obtain⟨f',v,h5,h6,rfl⟩:=eI hz;simp only at hfit hs0 hsz hb h5;rw[h4]at h5;cases h5;obtain⟨hc1,hc2⟩:=PV.fits_spec hfit;simp only at hc1;obtain⟨c1,c2⟩:=(dA E.view v).not_junk_cells hc2;have hvs:v.cells.size=f.size:=c1.trans hc1;have hrl:=nT (V:=E.view) v hc2 n;have hes:∀e∈aQ3 n (aU v),e.cells.length=f.size:=by
    intro e he;rw[(List.mem_replicate.1 he).2,hc1]
  obtain⟨arr',e1,e2,e3,e4⟩:=mX ht ⟨uN d,f.size,f.bytes⟩ ps.toList _ _ es hrl hes hok hb;rw[List.length_replicate]at e4;have hle:=aE.newFixed_le ho (.cells arr' e);refine⟨E.newFixed (.cells arr' e), .slice (some ⟨E.w.heap.size,0,none⟩) n n, ?_,hle,ho.newFixed _,rfl, ?_⟩
  · simp only[Instr.buildSlice,aQ1,aS h1,dC h4,aQ2]
    have hlt:¬n*f.size>2^24:=z8
    simp only[hlt,if_false,aQ4,aQ2,Sem.run_ite,aQ1]
    by_cases hn:n*f.size=0
    · have hn0:n=0:=by
        rcases Nat.mul_eq_zero.1 hn with h|h; · exact h
        · omega
      subst hn0;simp only[Nat.zero_mul,if_true,aQ2];simp only[Nat.zero_mul]at e1;have e0:Array.map (λx=>v.cells[x%v.cells.size]!) (Array.range 0)=Array.map (λx=>(#[]:Array Value)[x%(#[]:Array Value).size]!) (Array.range 0):=z6
      rw[e0]at e1;rw[Array.toList_map];simp only[e1,newRow,aQ1,run_newObj,aQ2,aQ4];rfl
    · simp only[if_neg hn,hO h4 h6,aQ2,aQ1,aQ4]
      rw[Array.toList_map];rw[hvs]at e1;simp only[hvs,e1,newRow,aQ1,run_newObj,aQ2,aQ4];rfl
  · refine mE (sz:=f.size) qV e3 (e2.mono hle.view) e4 ?_
    have:n<=n*f.size:=Nat.le_mul_of_pos_right _ hs0;unfold maxLen;omega
end ops
theorem aI{a b:Prop}(h:a)(k:b):a/\b:=⟨h,k⟩
theorem aM.int_inv{V:cQ}{v:Value}{k n}(h:aM V v (.int k n)):v= .int k n:=by cases h;rfl
theorem aM.bool_inv{V:cQ}{v:Value}{b}(h:aM V v (.bool b)):v= .bool b:=by cases h;rfl
theorem aM.agg_inv{V:cQ}{v:Value}{cs}(h:aM V v (.agg cs)):∃arr,v= .agg arr/\RL V arr cs:=by cases h;exact⟨_,rfl,‹_›,‹_›⟩
theorem aM.tup_inv{V:cQ}{v:Value}{cs}(h:aM V v (.tup cs)):∃arr,v= .tuple arr/\RL V arr cs:=by cases h;exact⟨_,rfl,‹_›,‹_›⟩
theorem aM.iptr_inv{V:cQ}{v:Value}{cs}(h:aM V v (.iptr cs)):∃(a:Addr) (vs:Nat->Value),v= .pointer (some a)/\(∀j,j<cs.length->V.cell (a.add j)=some (vs j))/\(∀j (h:j<cs.length),aM V (vs j) cs[j]):=by
 cases h;exact⟨_,_,rfl,‹_›,‹_›⟩
theorem aBd{cs:List PV}{off sz:Nat}{arr:Array Value}{V:cQ}(h:RL V arr cs)(hl:off+sz<=cs.length):RL V (arr.extract off (off+sz)) ((cs.drop off).take sz):=by
 refine⟨by simp[h.1];omega,λi hi=> ?_⟩;simp only[aQ6,aQ5]at hi;have:=h.2 (off+i) z8;rw[List.getElem_take,List.getElem_drop];rw[aQm]at this⊢;rw[Array.getElem?_extract,if_pos (by rw[h.1];omega)];exact this
section ops
variable{P:Program}{E:aE}{N:Nat}{a:Act}{T:Nat->PV}(ht:eU E.view N a T)
include ht
omit ht in
theorem GG{t:TypeId}{fl:List (Nat×TI)}(hf:kX P t=some fl){k off:Nat}{i:TI}(hk:fl[k]? =some (off,i)):
  ∃fs f,P.underlying t=some (.struct fs)/\fs[k]? =some f/\f.offset=off/\cD P f.type=some i:=by
 obtain⟨fs,h1,h2⟩:=CI hf;have key:∀(l:List Field) (fl:List (Nat×TI)) (k:Nat),(l.mapM λf=>(cD P f.type).map λi=>(f.offset,i))=some fl->fl[k]? =some (off,i)->
   ∃f,l[k]? =some f/\f.offset=off/\cD P f.type=some i:=by
  intro l
  induction l with
  |nil=>intro fl k h hk;simp at h;subst h;simp at hk
  |cons f l ih=>
   intro fl k h hk;rw[List.mapM_cons]at h;cases h3:cD P f.type with
   |none=>rw[h3]at h;simp at h
   |some j=>
    cases h4:l.mapM λf=>(cD P f.type).map λi=>(f.offset,i)with
    |none=>rw[h3]at h;simp[h4]at h
    |some fl'=>
     rw[h3]at h;simp[h4]at h;subst h;cases k with
     |zero=>simp at hk;exact⟨f,rfl,hk.1,by rw[h3,hk.2]⟩
     |succ k=>simp at hk;simpa using ih fl' k h4 hk
 obtain⟨f,h3,h4,h5⟩:=key fs.toList fl k h2 hk;exact⟨fs,f,h1,by simpa using h3,h4,h5⟩
theorem AJ{t:TypeId}{k:Nat}{x:Operand}(hx:aQ N x=true){fl:List (Nat×TI)}(hf:kX P t=some fl){v:PV}(hv:tO fl k (bO T x)=some v):
  ∃val,(Instr.fieldAt t (a.eval x) k).run P E.w= .ok val E.w/\aM E.view val v:=by
 have hr:=aO ht x hx;generalize a.eval x=ax at hr;generalize bO T x=px at hr hv;unfold tO at hv
 split at hv
 ·rename_i off i hk;obtain⟨fs,f,h1,h2,h3,h4⟩:=GG hf hk;obtain⟨d,g,h5,h6,rfl⟩:=bQ h4
  split at hv
  ·cases hv
  ·rename_i hz;simp only at hz;have hplace:∀ad:Addr,(fieldPlace ad f).run P E.w= .ok (ad.add off) E.w:=by
    intro ad;simp only[fieldPlace,aQ1,dC h6,aQ2,if_neg hz,aQ4,h3]
   have hrun:∀ad:Addr,(Instr.fieldAt t (.pointer (some ad)) k).run P E.w= .ok (.pointer (some (ad.add off))) E.w:=by
    intro ad;simp only[Instr.fieldAt,aQ1,aS h1,aQ2,h2,Instr.sureAddr,aQ4,hplace]
   split at hv
   ·cases hv;obtain⟨rfl,hb⟩:=hr.optr_inv;refine⟨_,hrun _, ?_⟩;rw[dD];exact .optr _ _ hb
   ·rename_i cs;cases hv;obtain⟨ad,vs,rfl,hc,hr⟩:=hr.iptr_inv;refine⟨_,hrun _, .iptr _ _ (λj=>vs (off+j)) ?_ ?_⟩
    ·intro j hj;rw[aQ5]at hj;rw[AX];exact hc _ z8
    ·intro j hj;rw[aQ5]at hj;rw[List.getElem_drop];exact hr _ _
   ·cases hv
 ·cases hv
theorem LR{t:TypeId}{k:Nat}{x:Operand}(hx:aQ N x=true){fl:List (Nat×TI)}(hf:kX P t=some fl){v:PV}(hv:XM fl k (bO T x)=some v):
  ∃val,(Instr.field t (a.eval x) k).run P E.w= .ok val E.w/\aM E.view val v:=by
 have hr:=aO ht x hx;generalize a.eval x=ax at hr;generalize bO T x=px at hr hv;unfold XM at hv
 split at hv
 ·rename_i off i cs hk;obtain⟨fs,f,h1,h2,h3,h4⟩:=GG hf hk;obtain⟨d,g,h5,h6,rfl⟩:=bQ h4;obtain⟨arr,rfl,hrl⟩:=hr.agg_inv
  split at hv
  ·rename_i hl;simp only at hl hv
   split at hv
   ·rename_i hagg;cases hv;have:=aBd hrl hl;refine⟨.agg (arr.extract off (off+g.size)), ?_, .agg _ _ this.1 this.2⟩;simp only[Instr.field,aQ1,aS h1,aQ2,h2,asAgg,aQ4,part,BB h5,hagg,if_true,dC h6,h3]
   ·rename_i hagg;have hlt:=lG hv;have hc:=hrl.2 off hlt;rw[aRa hlt]at hv;cases hv;have hg:arr[off]? =some (arr.getD off undef):=by
     rw[aQm,aQr (by rw[hrl.1];exact hlt)];rfl
    refine⟨arr.getD off undef, ?_,hc⟩;simp only[Bool.not_eq_true]at hagg;simp only[Instr.field,aQ1,aS h1,aQ2,h2,asAgg,aQ4,part,BB h5,hagg,aQ9,if_false,h3,hg]
  ·cases hv
 ·cases hv
omit ht in
theorem yW{V:cQ}{i:Value}{p:PV}{n k:Nat}(hr:aM V i p)(h:AN p n=some k):∃kd j,i= .int kd j/\0<=j/\j<n/\j.toNat=k:=by
 unfold AN at h
 split at h
 ·rename_i kd j
  split at h
  ·rename_i hc;cases h;exact⟨kd,j,hr.int_inv,hc.1,hc.2,rfl⟩
  ·cases h
 ·cases h
theorem AP{t:TypeId}{x i:Operand}(hx:aQ N x=true)(hi:aQ N i=true){ei:TypeId×TI}(hf:cN P t=some ei){v:PV}(hv:lC ei (bO T x) (bO T i)=some v):
  ∃val,(Instr.indexAt t (a.eval x) (a.eval i)).run P E.w= .ok val E.w/\aM E.view val v:=by
 obtain⟨e,ti⟩:=ei;obtain⟨h1,h2⟩:=cX hf;obtain⟨d,f,h3,h4,rfl⟩:=bQ h2;have hr:=aO ht x hx;have hr':=aO ht i hi;generalize a.eval x=ax at hr;generalize bO T x=px at hr hv;generalize a.eval i=ai at hr';generalize bO T i=pi at hr' hv;have hrun:∀(ad:Addr) (len cap:Nat) (kd:IntKind) (j:Int),0<=j->j<len->(Instr.indexAt t (.slice (some ad) len cap) (.int kd j)).run P E.w= .ok (.pointer (some (ad.add (j.toNat*f.size)))) E.w:=by
  intro ad len cap kd j h5 h6;simp only[Instr.indexAt,asIntOf,aQ1,aQ4,aQ2,aS h1,dC h4,if_pos (aI h5 h6),Sem.run_ite]
 unfold lC at hv
 split at hv
 ·rename_i es tl;cases hk:AN pi es.length with
  |none=>rw[hk]at hv;cases hv
  |some k=>
   rw[hk]at hv;obtain⟨kd,j,rfl,h5,h6,rfl⟩:=yW hr' hk;simp only[aQw]at hv;have hlt:j.toNat<es.length:=z8
   rw[aRa hlt]at hv;simp only[aQw]at hv
   split at hv
   ·rename_i hes;cases hv;cases hr with
    |nils _ _=>simp at hlt
    |slice ad len cap sz _ _ vs hlen hcap hmax hsz hc hr htl=>
     refine⟨_,hrun ad len cap kd j h5 z8, ?_⟩;have hs:=hsz _ hlt;have hszf:sz=f.size:=by rw[<-hs];exact hes
     refine .iptr _ _ (λq=>vs j.toNat q) (λq hq=> ?_) (λq hq=>hr _ q hlt hq);rw[AX];have:=hc j.toNat q z8 z8;rw[hszf]at this;exact this
   ·cases hv
 ·rename_i id off n c;cases hk:AN pi n with
  |none=>rw[hk]at hv;cases hv
  |some k=>
   rw[hk]at hv;obtain⟨kd,j,rfl,h5,h6,rfl⟩:=yW hr' hk;cases hv;cases hr with
   |msl _ _ _ _ hb hm=>
    refine⟨_,hrun _ n c kd j h5 h6, ?_⟩;rw[dD];exact .optr _ _ hb
 ·cases hv
theorem KE{t:TypeId}{x i:Operand}(hx:aQ N x=true)(hi:aQ N i=true){s:List UInt8}(hs:bO T x= .str s)(hst:MC P t=true){k:Nat}(hk:AN (bO T i) s.length=some k){b:UInt8}(hb:s[k]? =some b):
  (Instr.index t (a.eval x) (a.eval i)).run P E.w= .ok (.int .u8 b.toNat) E.w:=by
 have hr:=aO ht x hx;have hr':=aO ht i hi;rw[hs]at hr;obtain⟨kd,j,e,h5,h6,rfl⟩:=yW hr' hk;rw[e];unfold MC at hst
 split at hst
 ·rename_i hu;generalize a.eval x=ax at hr;cases hr with
  |str s=>
   have hb':s[j.toNat]? =some b:=by
    rw[<-hb];simp only[aRc];rfl
   simp only[Instr.index,asIntOf,aQ1,aQ4,aQ2,aS hu,if_pos h5,hb']
 ·cases hst
theorem FD{x:Operand}(hx:aQ N x=true){vs:List PV}(hs:bO T x= .tup vs){k:Nat}{v:PV}(hk:vs[k]? =some v):
  ∃val,(Instr.extract (a.eval x) k).run P E.w= .ok val E.w/\aM E.view val v:=by
 have hr:=aO ht x hx;rw[hs]at hr;obtain⟨arr,e,hrl⟩:=hr.tup_inv;rw[e];have hlt:=lG hk;rw[aRa hlt]at hk;cases hk;have hg:arr[k]? =some (arr.getD k undef):=by
  rw[aQm,aQr (by rw[hrl.1];exact hlt)];rfl
 exact⟨_,by simp only[Instr.extract,hg,aQ4],hrl.2 _ hlt⟩
end ops
theorem BW(s:ByteArray)(l h:Nat):(s.extract l h).data.toList=(s.data.toList.take h).drop l:=by
 rw[ByteArray.data_extract,Array.toList_extract];rw[List.extract_eq_take_drop,List.drop_take]
theorem VL{V:cQ}{i:Value}{p:PV}{n k:Nat}(hr:aM V i p)(h:AK p n=some k):∃kd j,i= .int kd j/\0<=j/\j<=n/\j.toNat=k:=by
 unfold AK at h
 split at h
 ·rename_i kd j
  split at h
  ·rename_i hc;cases h;exact⟨kd,j,hr.int_inv,hc.1,hc.2,rfl⟩
  ·cases h
 ·cases h
theorem yB{P:Program}{V:cQ}{w:World}{i:Value}{p:PV}{n k:Nat}{c:BoundsCode}(hr:aM V i p)(m:Nat)(hm:n<=m)(h:AK p n=some k):(Instr.sliceBound i m c).run P w= .ok k w/\k<=n:=by
 obtain⟨kd,j,rfl,h1,h2,rfl⟩:=VL hr h;have:0<=j/\j<=m:=⟨h1,z8⟩;refine⟨?_,z8⟩;simp only[Instr.sliceBound,asIntOf,aQ1,aQ4,aQ2,if_pos this,Sem.run_ite]
section ops
variable{P:Program}{E:aE}{N:Nat}{a:Act}{T:Nat->PV}(ht:eU E.view N a T)
include ht
theorem oL{w:World}{x:Option Operand}(hx:x.all (aQ N)=true){n d k:Nat}(m:Nat)(hm:n<=m){c:BoundsCode}(h:jW T x n d=some k):
  ((match x.map a.eval with|some v=>Instr.sliceBound v m c|none=>pure d:Sem Nat)).run P w= .ok k w/\(k<=n\/(x=none/\k=d)):=by
 cases x with
 |none=>simp[jW]at h;subst h;exact⟨rfl, .inr ⟨rfl,rfl⟩⟩
 |some x=>
  simp only[jW]at h;have:=yB (P:=P) (w:=w) (c:=c) (aO ht x (by simpa using hx)) m hm h;exact⟨this.1, .inl this.2⟩
theorem LW{t:TypeId}{x:Operand}{lo hi mx:Option Operand}(hx:aQ N x=true)(hlo:lo.all (aQ N)=true)(hhi:hi.all (aQ N)=true)(hmx:mx.all (aQ N)=true){v:PV}
  (hv:jT P T t (bO T x) lo hi mx=some v):
  ∃val,(Instr.sliceAt t (a.eval x) (lo.map a.eval) (hi.map a.eval) (mx.map a.eval)).run P E.w= .ok val E.w/\aM E.view val v:=by
 have hr:=aO ht x hx;generalize a.eval x=ax at hr;generalize bO T x=px at hr hv;unfold jT at hv
 split at hv
 ·rename_i s
  split at hv
  ·rename_i hc;obtain⟨hst,hmn⟩:=hc;obtain rfl:mx=none:=by cases mx<;>simp_all
   cases hh:jW T hi s.length s.length with
   |none=>rw[hh]at hv;cases hv
   |some h=>
    rw[hh]at hv;simp only[aQw]at hv;cases hl:jW T lo h 0 with
    |none=>rw[hl]at hv;cases hv
    |some l=>
     rw[hl]at hv;simp only[aQw,Option.some.injEq]at hv;subst hv;unfold MC at hst
     split at hst
     ·rename_i hu;cases hr with
      |str s=>
       have hsz:s.data.toList.length=s.size:=aQq;rw[hsz]at hh;have h1:=oL (P:=P) ht (w:=E.w) hhi s.size (aQj _) (c:=.sliceAlen) hh;have h2:=oL (P:=P) ht (w:=E.w) hlo h (aQj _) (c:=.sliceB) hl;refine⟨.string (s.extract l h), ?_, ?_⟩
       ·simp only[Instr.sliceAt,aQ1,aS hu,aQ2,Instr.slice,aRi,aRj,aQ9,if_false,Instr.sliceBounds,aQ4];have e1:=h1.1;have e2:=h2.1;cases hi with
        |none=>
         cases lo with
         |none=>simp only[aRi,aQ4,Result.ok.injEq,and_true]at e1 e2⊢;subst e1;subst e2;simp
         |some lo=>simp only[aRi,aQz,aQ4,Result.ok.injEq,and_true]at e1 e2⊢;subst e1;simp[e2]
        |some hi=>
         cases lo with
         |none=>simp only[aRi,aQz,aQ4,Result.ok.injEq,and_true]at e1 e2⊢;subst e2;simp[e1]
         |some lo=>simp only[aQz,aQ4,Result.ok.injEq,and_true]at e1 e2⊢;simp[e1,e2]
       ·rw[<-BW];exact .str _
     ·cases hst
  ·cases hv
 ·rename_i es tl
  split at hv
  ·rename_i e i htel
   split at hv
   ·rename_i hsz0;obtain⟨hu,hti⟩:=cX htel;obtain⟨d,f,h3,h4,rfl⟩:=bQ hti;simp only at hsz0;obtain⟨ad,len,cap,rfl,hlen,hcap,hmax,hres⟩:∃(ad:Option Addr) (len cap:Nat),ax= .slice ad len cap/\es.length=len/\len<=cap/\cap<=maxLen/\
      ∀l h m tl',l<=h->h<=len->h<=m->m<=cap->mK E.view tl' (if m=l then ad else ad.map (·.add (l*f.size))) (h-l) (m-l)->
       aM E.view (.slice (if m=l then ad else ad.map (·.add (l*f.size))) (h-l) (m-l)) (.slice ((es.take h).drop l) tl'):=by
     cases hr with
     |nils _ _=>
      refine⟨none,0,0,rfl,rfl,aQj _,aRk _, ?_⟩;intro l h m tl' h1 h2 h3 h4 h5;obtain rfl:m=0:=z8
      obtain rfl:h=0:=z8
      obtain rfl:l=0:=z8
      simp only[if_true,Nat.sub_self,List.take_nil,List.drop_nil]at h5⊢;exact .nils _ h5
     |slice ad len cap sz _ _ vs hlen hcap hmax hsz hc hr htl=>
      refine⟨some ad,len,cap,rfl,hlen,hcap,hmax, ?_⟩;intro l h m tl' h1 h2 h3 h4 h5;have hval:(if m=l then some ad else Option.map (λx:Addr=>x.add (l*f.size)) (some ad))=some (if m=l then ad else ad.add (l*f.size)):=by split<;>rfl
      rw[hval]at h5⊢;have hle:((es.take h).drop l).length=h-l:=by simp;omega
      have hget:∀i,(hi:i<((es.take h).drop l).length)->((es.take h).drop l)[i]=es[l+i]'(by rw[hle]at hi;omega):=by
       intro i hi;rw[List.getElem_drop,List.getElem_take]
      refine .slice _ _ _ sz _ _ (λi j=>vs (l+i) j) hle z8 z8 (λi hi=> ?_) (λi j hi hj=> ?_) (λi j hi hj=> ?_) h5
      ·rw[hget i hi];exact hsz _ _
      ·have hne:¬m=l:=z8
       rw[if_neg hne,AX];have hli:l+i<es.length:=z8
       have hss:sz=f.size:=by rw[<-hsz _ hli];exact hsz0 _ (aRh hli)
       have:=hc (l+i) j z8 hj;rw[<-this,<-hss,Nat.add_mul,Nat.add_assoc]
      ·have hj':=hj;simp only[hget i hi]at hj'⊢;exact hr _ _ _ _
    have hrun:∀(l h m:Nat),(Instr.sliceBounds true len cap (lo.map a.eval) (hi.map a.eval) (mx.map a.eval)).run P E.w= .ok (l,h,m) E.w->
      (Instr.sliceAt t (.slice ad len cap) (lo.map a.eval) (hi.map a.eval) (mx.map a.eval)).run P E.w= .ok (.slice (if m=l then ad else ad.map (·.add (l*f.size))) (h-l) (m-l)) E.w:=by
     intro l h m hb;simp only[Instr.sliceAt,aQ1,aS hu,aQ2,Instr.slice,hb,dC h4,aQ4]
    have htail:mK E.view tl ad len cap:=by
     cases hr with
     |nils _ h=>exact h
     |slice=>assumption
    split at hv
    ·
     cases hh:jW T hi es.length es.length with
     |none=>rw[hh]at hv;cases hv
     |some h=>
      rw[hh]at hv;simp only[aQw]at hv;cases hl:jW T lo h 0 with
      |none=>rw[hl]at hv;cases hv
      |some l=>
       rw[hl]at hv;simp only[aQw,Option.some.injEq]at hv;subst hv;rw[hlen]at hh;have h1:=oL (P:=P) ht (w:=E.w) hhi cap hcap (c:=.sliceAcap) hh;have h2:=oL (P:=P) ht (w:=E.w) hlo h (aQj _) (c:=.sliceB) hl;have hhl:h<=len:=by rcases h1.2 with h| ⟨_,h⟩<;>omega
       have hll:l<=h:=by rcases h2.2 with h| ⟨_,h⟩<;>omega
       refine⟨_,hrun l h cap ?_,hres l h cap _ hll hhl z8 (aQj _) ?_⟩
       ·simp only[Instr.sliceBounds,aRi,aQ1,aQ4,aQ2,aRj,aQ9,if_false];have e1:=h1.1;have e2:=h2.1;cases hi with
        |none=>
         cases lo with
         |none=>simp only[aRi,aQ4,Result.ok.injEq,and_true]at e1 e2⊢;subst e1;subst e2;simp
         |some lo=>simp only[aRi,aQz,aQ4,Result.ok.injEq,and_true]at e1 e2⊢;subst e1;simp[e2]
        |some hi=>
         cases lo with
         |none=>simp only[aRi,aQz,aQ4,Result.ok.injEq,and_true]at e1 e2⊢;subst e2;simp[e1]
         |some lo=>simp only[aQz,aQ4,Result.ok.injEq,and_true]at e1 e2⊢;simp[e1,e2]
       ·split
        ·rename_i hc;obtain⟨hc1,rfl⟩:=hc;have:cap=len:=htail;show cap-l=h-l;omega
        ·split
         ·rename_i hc;obtain⟨hc1,hc2⟩:=hc;obtain rfl:hi=none:=by cases hi<;>simp_all
          obtain rfl:lo=none:=by cases lo<;>simp_all
          simp[jW]at hh hl;subst hh;subst hl;simp only[Nat.sub_zero,Nat.zero_mul,uT,Option.map_id_fun',id_eq,ite_self];have e:(if cap=0 then ad else Option.map (λx:Addr=>x) ad)=ad:=by split<;>simp
          simpa using htail
         ·trivial
    ·
     rename_i m
     split at hv
     ·cases hv
     ·rename_i hh;cases hm:AK (bO T m) es.length with
      |none=>rw[hm]at hv;cases hv
      |some m'=>
       rw[hm]at hv;simp only[aQw]at hv;cases hhb:AK (bO T hh) m' with
       |none=>rw[hhb]at hv;cases hv
       |some h'=>
        rw[hhb]at hv;simp only[aQw]at hv;cases hl:jW T lo h' 0 with
        |none=>rw[hl]at hv;cases hv
        |some l=>
         rw[hl]at hv;simp only[aQw,Option.some.injEq]at hv;subst hv;rw[hlen]at hm;have g1:=yB (P:=P) (w:=E.w) (c:=.slice3Acap) (aO ht m (by simpa using hmx)) cap hcap hm;have g2:=yB (P:=P) (w:=E.w) (c:=.slice3B) (aO ht hh (by simpa using hhi)) m' (aQj _) hhb;have h2:=oL (P:=P) ht (w:=E.w) hlo h' (aQj _) (c:=.slice3C) hl;have hll:l<=h':=by rcases h2.2 with h| ⟨_,h⟩<;>omega
         refine⟨_,hrun l h' m' ?_,hres l h' m' _ hll z8 g2.2 z8 ?_⟩
         ·simp only[Instr.sliceBounds,aQz,aQ1,aQ4,aQ2,Option.isSome_some,if_true,g1.1,g2.1];have e2:=h2.1;cases lo with
          |none=>simp only[aRi,aQ4,Result.ok.injEq,and_true]at e2⊢;subst e2;simp
          |some lo=>simp only[aQz]at e2⊢;simp[e2]
         ·split
          ·rename_i e;subst e;rfl
          ·trivial
   ·cases hv
  ·cases hv
 ·cases hv
end ops
theorem FP(n:Nat):∀(r c:Nat),256<=c->c<=2*n->Builtin.growBy n r c<=2*n
  |0,c,_,h=>h
  |r+1,c,h1,h=>by
    unfold Builtin.growBy
    split
    · exact h
    · exact FP n r _ z8 z8
theorem nH(n old:Nat)(h:old<=n):Builtin.nextslicecap n old<=2*n:=by
  unfold Builtin.nextslicecap
  split
  · omega
  · split
    · omega
    · exact FP n 4 old z8 z8
theorem BC{P:Program}{w:World}(n:Nat):(askRoom n).run P w= .ok () w:=by
  unfold askRoom;split<;>rfl
theorem oU{P:Program}{w:World}(nX old:Nat)(e:TypeId):∃c,(choose (.appendCap nX old e)).run P w= .ok c w.drew/\nX<=c/\(nX<2^63->c<2^63):=by
  refine⟨nX+w.tape w.drawn (.appendCap nX old e)%(2^63-nX), ?_,z8,λh=> ?_⟩
  · simp only[choose,Sem.run,Question.forced,aQ9,if_false,Question.cut];rfl
  · have:=Nat.mod_lt (w.tape w.drawn (.appendCap nX old e)) (show 0<2^63-nX by omega)
    omega
theorem mN{P:Program}{E:aE}{v:Value}{es:List PV}{tl:iQ}(h:aM E.view v (.slice es tl)){sz:Nat}(hs:∀e∈es,e.cells.length=sz):∃arr,(Builtin.firstCells sz es.length v).run P E.w= .ok arr E.w/\RL E.view arr (aH es)/\∃ad cap,v= .slice ad es.length cap/\es.length<=cap/\cap<=maxLen/\mK E.view tl ad es.length cap:=by
  cases h with
  |nils _ ht=>exact⟨#[],rfl,⟨rfl,λi h=>absurd h (by simp[aH])⟩,none,0,rfl,aQj _,aRk _,ht⟩
  |slice ad len cap sz' _ _ vs hlen hcap hmax hsz hc hr ht=>
    subst hlen;have hfl:=bL es hs
    by_cases h0:es.length*sz=0
    · refine⟨#[], ?_,⟨?_,λi h=> ?_⟩,some ad,cap,rfl,hcap,hmax,ht⟩
      · simp only[Builtin.firstCells,h0,loadCells,loadCellsFrom,aQ4]
      · rw[hfl,h0];rfl
      · rw[hfl,h0]at h;omega
    · have hpos:0<es.length:=by
        rcases Nat.eq_zero_or_pos es.length with e|e; · rw[e]at h0;simp at h0
        · exact e
      have hszpos:0<sz:=by
        rcases Nat.eq_zero_or_pos sz with e|e; · rw[e]at h0;simp at h0
        · exact e
      have hss:sz'=sz:=by rw[<-hsz 0 hpos];exact hs _ (aRh hpos)
      subst hss;have hdm:∀k,k<es.length*sz'->k/sz'<es.length/\k%sz'<sz'/\k=k/sz'*sz'+k%sz':=λk hk=>
        ⟨(Nat.div_lt_iff_lt_mul hszpos).2 hk,Nat.mod_lt k hszpos,by rw[Nat.mul_comm];exact(Nat.div_add_mod k sz').symm⟩
      have hf:∀k,k<es.length*sz'->E.w.cell? (ad.add k)=some (vs (k/sz') (k%sz')):=by
        intro k hk;obtain⟨h1,h2,h3⟩:=hdm k hk;have:=aE.cell_stable (hc _ _ h1 h2);rw[<-h3]at this;exact this
      refine⟨_,run_loadCells E.w ad _ (λk=>vs (k/sz') (k%sz')) hf,⟨by simp[hfl],λk hk=> ?_⟩,some ad,cap,rfl,hcap,hmax,ht⟩;have hk':=hk;rw[hfl]at hk';obtain⟨h1,h2,h3⟩:=hdm k hk';have hj:k%sz'<es[k/sz'].cells.length:=by rw[hsz _ h1];exact h2
      have g:=jI es hs _ _ h1 h2;rw[<-h3,aRa hk,aRa hj]at g;simp only[Option.some.injEq]at g;rw[g,aQm];simp only[aQ7,aQ8,List.getElem?_range hk',aQz,aQs];exact hr _ _ h1 hj
theorem oG{V:cQ}{a1 a2:Array Value}{c1 c2:List PV}(h1:RL V a1 c1)(h2:RL V a2 c2):RL V (a1++a2) (c1++c2):=by
  refine⟨by simp[h1.1,h2.1],λi hi=> ?_⟩;rw[aQm,Array.getElem?_append]
  by_cases h:i<c1.length
  · rw[if_pos (by rw[h1.1];exact h),List.getElem_append_left h,<-aQm]
    exact h1.2 i h
  · rw[if_neg (by rw[h1.1];exact h),List.getElem_append_right z8,h1.1,<-aQm]
    exact h2.2 _ _
theorem cM(a b:List PV):aH (a++b)=aH a++aH b:=by simp[aH]
theorem rH{V:cQ}{b n cap:Nat}{arr:Array Value}{es:List PV}{sz:Nat}{tl:iQ}(hcell:∀k,k<es.length*sz->V.cell ⟨b,k,none⟩=some (arr.getD k undef))(hes:∀e∈es,e.cells.length=sz)(hrl:∀k (h:k<(aH es).length),aM V (arr.getD k undef) (aH es)[k])(hn:es.length=n)(hc:n<=cap)(hm:cap<=maxLen)(ht:mK V tl (some ⟨b,0,none⟩) n cap):aM V (.slice (some ⟨b,0,none⟩) n cap) (.slice es tl):=by
  have hfl:=bL es hes;have hlt:∀i j,i<es.length->j<sz->i*sz+j<es.length*sz:=by
    intro i j hi hj;have:(i+1)*sz<=es.length*sz:=aRg _ z8;rw[Nat.succ_mul]at this;omega
  refine .slice _ n cap sz es tl (λi j=>arr.getD (i*sz+j) undef) hn hc hm (λi h=>hes _ (aRh h)) ?_ ?_ ht
  · intro i j hi hj
    rw[dD,aRe];exact hcell _ (hlt i j z8 hj)
  · intro i j hi hj
    have hl:=hes _ (aRh hi);have hj':j<sz:=z8
    have hk:i*sz+j<(aH es).length:=by rw[hfl];exact hlt i j hi hj'
    have h1:=hrl _ hk;have h2:=jI es hes i j hi hj';rw[aRa hk,aRa hj]at h2;simp only[Option.some.injEq]at h2;rw[h2]at h1;exact h1
def aE.growIn(E:aE)(id n sz b off pos cend:Nat)(vs:List Value):aE:=
  {w:=gL E.w ⟨b,off,none⟩ vs 0,κ:=λx=>if x=b then .buf pos cend else E.κ x,ρ:=E.ρ,tb:=E.tb,H:=E.H.set id (.buf n sz)}
section growIn
variable{E:aE}(h:E.Ok){id n0 n sz b off pos cend:Nat}(hi:E.H[id]? =some (.buf n0 sz))(hn:n0<n)(hb:E.tb id=some b)(hk:E.κ b= .buf off cend)(vs:List Value)(hp:off+vs.length=pos)
include h hi hn hb hk hp
theorem aE.growIn_view:E.view.le (E.growIn id n sz b off pos cend vs).view:=by
  have hlen:=lG hi;obtain⟨arr,elem,pos',h1,h2⟩:=h.bufs id n0 sz b hi hb;obtain⟨arr',g1,g2,g3⟩:=pZ b off elem (0,0) vs 0 E.w arr h1;refine⟨λa u hc=> ?_,λx hb'=> ?_,λx hb'=>rfl,λx t' hb' ht=> ?_⟩
  · simp only[aE.view]at hc⊢
    split at hc
    · rename_i hs
      by_cases e:a.block=b
      · rw[e,hk]at hs
        simp only[sD.stable,decide_eq_true_eq]at hs;have hst:(sD.buf pos cend).stable a.off=true:=by simp only[sD.stable,decide_eq_true_eq];omega
        simp only[aE.growIn,if_pos e,hst,if_true];unfold World.cell? at hc⊢;rw[e,h1]at hc;rw[e,g1];simp only at hc⊢
        split at hc
        · cases hc
        · rename_i hsp
          rw[if_neg hsp];have hlt:a.off<arr.size:=by
            rcases aQi a.off arr.size with q|q
            · exact q
            · rw[Array.getElem?_eq_none q]at hc;cases hc
          rw[g3 _ hlt,if_neg z8];exact hc
      · simp only[aE.growIn,if_neg e,hs,if_true]
        rw[cell?_congr (kN _ _ e vs 0 E.w)];exact hc
    · cases hc
  · obtain⟨o,a1,a2⟩:=hb'
    by_cases e:x=id
    · exact⟨.buf n sz,by simp only[aE.growIn,aK hlen,if_pos e],z6⟩
    · exact⟨o,by simp only[aE.growIn,aK hlen,if_neg e];exact a1,a2⟩
  · by_cases e:x=id
    · subst e
      refine⟨_,by simp only[aE.view,hi];rfl, .inr ?_⟩;simp only[aE.view,aE.growIn,aK hlen,if_true]at ht;cases ht;exact hn
    · refine⟨t', ?_, .inl rfl⟩
      simp only[aE.view,aE.growIn,aK hlen,if_neg e]at ht⊢
      split at ht
      · rename_i n' sz' hx
        rw[<-ht];cases htb:E.tb x with
        |none=>rfl
        |some b'=>
          have hne:b'≠b:=by rintro rfl;exact e (h.injb x id _ _ _ _ _ hx hi htb hb)
          simp only[aQw,if_neg hne]
      · cases ht
theorem aE.growIn_le:E.le (E.growIn id n sz b off pos cend vs):=by
  have hlen:=lG hi;obtain⟨o1,o2,o3,o4⟩:=zZ ⟨b,off,none⟩ vs 0 E.w;refine⟨o1,o2,o3,by show _<=(gL _ _ _ _).heap.size;omega,λx hx hnb=> ?_,aE.growIn_view h hi hn hb hk vs hp,λx hx=>Or.imp ?_ (Or.imp ?_ (aE.ownsObj_of λx k hx=> ?_))⟩
  · have hne:x≠b:=by rintro rfl;exact hnb (.inr (.inl ⟨id,n0,sz,hi,hb⟩))
    exact⟨by simp only[aE.growIn,if_neg hne],kN _ _ hne vs 0 E.w⟩
  · rintro⟨y,cs,a1,a2⟩
    simp only[aE.growIn,aK hlen]at a1 a2
    split at a1
    · cases a1
    · exact⟨y,cs,a1,a2⟩
  · rintro⟨y,m,s,a1,a2⟩
    simp only[aE.growIn,aK hlen]at a1 a2
    split at a1
    · rename_i e;subst e;exact⟨y,n0,sz,hi,a2⟩
    · exact⟨y,m,s,a1,a2⟩
  · simp only[aE.growIn,aK hlen]at hx
    split at hx
    · cases hx
    · exact⟨hx,rfl⟩
theorem aE.Ok.growIn:(E.growIn id n sz b off pos cend vs).Ok:=by
  have hlen:=lG hi;have hv:=aE.growIn_view h hi hn hb hk vs hp;obtain⟨arr,elem,pos',h1,h2⟩:=h.bufs id n0 sz b hi hb;obtain⟨arr',g1,g2,g3⟩:=pZ b off elem (0,0) vs 0 E.w arr h1;have hcend:cend=arr.size:=by rw[hk]at h2;cases h2;rfl
  refine⟨?_, ?_, ?_, ?_,h.globs_of hv.cell (by intro x b vs hx;simp only[aE.growIn,aK hlen]at hx;split at hx<;>first|exact hx|cases hx),h.objs.of hv λx k hx=> ?_⟩
  rotate_left 4
  · simp only[aE.growIn,aK hlen]at hx
    split at hx
    · cases hx
    · obtain⟨⟨o,b1,b2⟩,b3⟩:=h.objs.at_ x k hx
      have hne:E.ρ x≠b:=by intro q;rw[q,hk]at b3;cases b3
      exact⟨hx,rfl,kN _ _ hne vs 0 E.w,by simp only[aE.growIn,if_neg hne]⟩
  · intro x cs hx
    simp only[aE.growIn,aK hlen]at hx
    split at hx
    · cases hx
    · obtain⟨arr2,elem2,b1,b2,b3,b4⟩:=h.rows x cs hx
      have hne:E.ρ x≠b:=by intro q;rw[q,hk]at b4;cases b4
      exact⟨arr2,elem2,by rw[<-b1];exact kN _ _ hne vs 0 E.w,b2,λi hl=>(b3 i hl).mono hv,by simp only[aE.growIn,if_neg hne];exact b4⟩
  · intro x m s b' hx hb'
    simp only[aE.growIn,aK hlen]at hx hb'
    split at hx
    · rename_i e
      subst e;rw[hb]at hb';cases hb';exact⟨arr',elem,pos,g1,by simp only[aE.growIn,if_true,g2,hcend]⟩
    · rename_i e
      obtain⟨arr2,elem2,pos2,b1,b2⟩:=h.bufs x m s b' hx hb';have hne:b'≠b:=by rintro rfl;exact e (h.injb x id _ _ _ _ _ hx hi hb' hb)
      exact⟨arr2,elem2,pos2,by rw[<-b1];exact kN _ _ hne vs 0 E.w,by simp only[aE.growIn,if_neg hne];exact b2⟩
  · intro x x' c c' a1 a2 e
    simp only[aE.growIn,aK hlen]at a1 a2 e
    split at a1<;>split at a2
    · cases a1
    · cases a1
    · cases a2
    · exact h.injr x x' c c' a1 a2 e
  · intro x x' n1 s1 n2 s2 b' a1 a2 e e'
    simp only[aE.growIn,aK hlen]at a1 a2 e e';have fix:∀y m s,(if y=id then some (AObj.buf n sz)else E.H[y]?)=some (.buf m s)->∃m' s',E.H[y]? =some (.buf m' s'):=by
      intro y m s q
      split at q
      · rename_i e;subst e;exact⟨n0,sz,hi⟩
      · exact⟨m,s,q⟩
    obtain⟨d,d1,hd⟩:=fix _ _ _ a1;obtain⟨d',d2,hd'⟩:=fix _ _ _ a2;exact h.injb x x' _ _ _ _ _ hd hd' e e'
end growIn
theorem BN(z:Array Value)(n:Nat):(Builtin.zeroCells z n).size=n*z.size:=by simp[Builtin.zeroCells]
theorem NW{E:aE}{E':aE}{b off:Nat}{ad:Addr}{es xs:List PV}{sz n cap:Nat}{tl:iQ}{tl0:iQ}
  (hle:E.view.le E'.view) (hs:aM E.view (.slice (some ad) es.length cap) (.slice es tl0)) (hes:∀e∈es,e.cells.length=sz) (hxs:∀e∈xs,e.cells.length=sz)
  (had:ad=⟨b,off,none⟩) (hnew:∀k,k<xs.length*sz->∃v,E'.view.cell ⟨b,off+es.length*sz+k,none⟩=some v/\∀(h:k<(aH xs).length),aM E'.view v (aH xs)[k])
  (hn:es.length+xs.length=n) (hc:n<=cap) (hm:cap<=maxLen) (ht:mK E'.view tl (some ad) n cap):
  aM E'.view (.slice (some ad) n cap) (.slice (es++xs) tl):=by
 subst had;cases hs with
 |slice _ _ _ sz' _ _ vs hlen hcap hmax hsz hcell hr htl=>
  let g:Nat->Value:=λk=>(E'.view.cell ⟨b,off+es.length*sz+k,none⟩).getD undef
  have hg:∀k,k<xs.length*sz->E'.view.cell ⟨b,off+es.length*sz+k,none⟩=some (g k)/\∀(h:k<(aH xs).length),aM E'.view (g k) (aH xs)[k]:=by
   intro k hk;obtain⟨v,h1,h2⟩:=hnew k hk;have:g k=v:=by simp only[g,h1,aQs]
   exact⟨by rw[this];exact h1,by rw[this];exact h2⟩
  have hlt:∀i j,i<xs.length->j<sz->i*sz+j<xs.length*sz:=by
   intro i j hi hj;have:(i+1)*sz<=xs.length*sz:=aRg _ z8;rw[Nat.succ_mul]at this;omega
  refine .slice _ n cap sz _ _ (λi j=>if i<es.length then vs i j else g ((i-es.length)*sz+j)) (by simp[hn]) hc hm ?_ ?_ ?_ ht
  ·intro i hi;rw[List.getElem_append]
   split
   ·exact hes _ (aRh _)
   ·exact hxs _ (aRh _)
  ·intro i j hi hj
   by_cases h:i<es.length
   ·rw[if_pos h];have hss:sz'=sz:=by rw[<-hsz _ h];exact hes _ (aRh h)
    subst hss;exact hle.cell _ _ (hcell i j h hj)
   ·rw[if_neg h,dD];have hk:=hlt (i-es.length) j z8 hj;have:=(hg _ hk).1;rw[<-this];congr 2;rw[Nat.sub_mul];have:es.length*sz<=i*sz:=aRg _ z8;omega
  ·intro i j hi hj
   by_cases h:i<es.length
   ·have e:(es++xs)[i]=es[i]:=List.getElem_append_left h;rw[if_pos h];simp only[e]at hj⊢;exact(hr i j h hj).mono hle
   ·have hi':i-es.length<xs.length:=by simp at hi;omega
    have e:(es++xs)[i]=xs[i-es.length]:=List.getElem_append_right z8;rw[if_neg h];simp only[e]at hj⊢;have hj':j<sz:=by rw[<-hxs _ (aRh hi')];exact hj
    have hk:=hlt _ j hi' hj';have h2:=jI xs hxs _ j hi' hj';have hk':(i-es.length)*sz+j<(aH xs).length:=by rw[bL xs hxs];exact hk
    rw[aRa hk',aRa hj]at h2;simp only[Option.some.injEq]at h2;rw[<-h2];exact(hg _ hk).2 hk'
section ops
variable{P:Program}{E:aE}{N:Nat}{a:Act}{T:Nat->PV}(ho:E.Ok)
include ho
theorem EN{t u ty:TypeId}{sv xv:Value}{es xs:List PV}{tl:iQ}(hs:aM E.view sv (.slice es tl))(hx0:xs≠ [])(hxn:∀w,(Builtin.lenOf xv).run P w= .ok xs.length w)
  (hxf:∀sz,(∀e∈xs,e.cells.length=sz)->∀D:aE,D.view=E.view->∃arrx,(Builtin.firstCells sz xs.length xv).run P D.w= .ok arrx D.w/\RL E.view arrx (aH xs))
  {ei:TypeId×TI} (hf:cN P t=some ei) {z:PV} (hz:cF P ei.1=some z) (hu:(∃eu,P.underlying u=some (.slice eu))\/P.underlying u=some .string) (hzf:z.fits ei.2=true) {fresh:Nat} {v:PV} {eff:pH}
  (hv:(if(es.length+xs.length)*ei.2.bytes<=2^47/\es.length+xs.length<=maxLen/\(∀e∈es,e.cells.length=ei.2.sz)/\(∀e∈xs,e.cells.length=ei.2.sz/\e.cells.all PV.isCell=true)/\0<ei.2.sz then
   match tl with
   | .full=>some (.slice (es++xs) (.tok fresh),some (fresh, .buf (es.length+xs.length) ei.2.sz))
   | .tok id=>match E.H[id]? with
    |some (.buf n sz)=>if n=es.length/\sz=ei.2.sz then some (.slice (es++xs) (.tok id),some (id, .buf (es.length+xs.length) sz))else none
    |_=>none
   | .none=>none
  else none)=some (v,eff)) (hfr:∀o,eff=some (fresh,o)->tl= .full->E.H[fresh]? =some .unborn):
  ∃E' val,(Builtin.append_ #[t,u] ty #[sv,xv]).run P E.w= .ok val E'.w/\E.le E'/\E'.Ok/\E'.H=eff.app E.H/\aM E'.view val v:=by
 obtain⟨e,i⟩:=ei;obtain⟨h1,h2⟩:=cX hf;obtain⟨d,f,h3,h4,rfl⟩:=bQ h2;obtain⟨f',zv,h5,h6,rfl⟩:=eI hz;simp only at h5 hzf hv;rw[h4]at h5;cases h5;obtain⟨hzs,hzj⟩:=PV.fits_spec hzf;simp only at hzs;obtain⟨zc1,zc2⟩:=(dA E.view zv).not_junk_cells hzj;have hzv:zv.cells.size=f.size:=zc1.trans hzs
 split at hv
 ·rename_i hc;obtain⟨hc1,hc2,hc3,hc4,hc5⟩:=hc
  try simp only at hc1 hc3 hc4 hc5
  have hxs:∀e∈xs,e.cells.length=f.size:=λe he=>(hc4 e he).1;have hxl:0<xs.length:=List.length_pos_iff.2 hx0;obtain⟨arrx,r1,r2⟩:=hxf _ hxs E rfl;obtain⟨arrs,s1,s2,ads,caps,rfl,hcap,hmax,htail⟩:=mN (P:=P) hs hc3;have hxsz:arrx.size=xs.length*f.size:=by rw[r2.1,bL xs hxs]
  have hssz:arrs.size=es.length*f.size:=by rw[s2.1,bL es hc3]
  have hrun0:(Builtin.append_ #[t,u] ty #[.slice ads es.length caps,xv]).run P E.w=
    (if es.length+xs.length<=caps then(do
      let new<-Builtin.firstCells f.size xs.length xv
      if let some a:=ads then storeCells (a.add (es.length*f.size)) new.toList
      pure (.slice ads (es.length+xs.length) caps):Sem Value)else(do
      let newCap<-choose (.appendCap (es.length+xs.length) caps e)
      askRoom (newCap*f.bytes)
      let old<-Builtin.firstCells f.size es.length (.slice ads es.length caps)
      let new<-Builtin.firstCells f.size xs.length xv
      let rest:=Builtin.zeroCells zv.cells (newCap- (es.length+xs.length))
      pure (.slice (some (<-Go.newRow e (old++new++rest))) (es.length+xs.length) newCap))).run P E.w:=by
   have hnc:¬Builtin.nextslicecap (es.length+xs.length) caps*f.bytes>2^48\/es.length+xs.length<=caps:=by
    by_cases hle:es.length+xs.length<=caps
    ·exact .inr hle
    ·left;have:=nH (es.length+xs.length) caps z8;have:=aRg f.bytes this;rw[Nat.mul_assoc]at this;omega
   have hmx:¬(((es.length+xs.length:Nat):Int)>IntKind.i64.max):=by
    have e1:IntKind.i64.max=9223372036854775807:=z7
    have e2:maxLen=9223372036854775807:=z7
    rw[e1];rw[e2]at hc2;omega
   rcases hu with⟨eu,hue⟩|hue
   all_goals
    simp only[Builtin.append_,aQ7,aRl,List.getElem?_cons_succ,aQ1,aS h1,dC h4,aS hue,aQ2,aQ4,hxn,aQ9,if_false,
     aRm,if_true]
    by_cases hle:es.length+xs.length<=caps
    ·simp only[if_pos hle,aQ1];rfl
    ·have hnc':=hnc.resolve_right hle;simp only[if_neg hle,hmx,false_and,if_false,aQ1,aQ4,aQ2,oI h4,hnc',hO h4 h6]
  by_cases hle:es.length+xs.length<=caps
  ·
   rw[if_pos hle]at hrun0;cases tl with
   |none=>simp at hv
   |full=>have:caps=es.length:=htail;omega
   |tok id=>
    simp only at hv
    split at hv
    ·rename_i n sz hid
     split at hv
     ·rename_i hns;obtain⟨rfl,rfl⟩:=hns;cases hv;obtain⟨hborn,htok⟩:=htail;have hvt:E.view.tok id=some ⟨es.length,f.size,(E.tb id).bind λb=>match E.κ b with| .buf pos cend=>some (b,pos,cend)|_=>none⟩:=by
       simp only[aE.view,hid]<;>rfl
      obtain⟨_,ht2⟩:=htok _ hvt;rcases ht2 rfl with ht2| ⟨b,pos,cend,off,hl1,hl2,hl3,hl4⟩
      ·omega
      ·simp only at hl1 hl3 hl4;subst hl2;cases htb:E.tb id with
       |none=>rw[htb]at hl1;cases hl1
       |some b'=>
        rw[htb]at hl1;simp only[aQw]at hl1
        split at hl1
        ·rename_i pos' cend' hkb;simp only[Option.some.injEq,Prod.mk.injEq]at hl1;obtain⟨rfl,rfl,rfl⟩:=hl1;replace hl3:off+es.length*f.size=pos':=hl3;replace hl4:off+caps*f.size=cend':=hl4;obtain⟨arr,elem,posx,g1,g2⟩:=ho.bufs id _ _ _ hid htb;have hce:cend'=arr.size:=by rw[hkb]at g2;cases g2;rfl
         have hfit:pos'+arrx.size<=arr.size:=by
          rw[hxsz,<-hce,<-hl3,<-hl4];have:(es.length+xs.length)*f.size<=caps*f.size:=aRg _ hle;rw[Nat.add_mul]at this;omega
         have hcellx:∀w∈arrx.toList,Value.isCell w=true:=by
          intro w hw;obtain⟨k,hk,rfl⟩:=List.getElem_of_mem hw;simp only[aQq]at hk;have hk':k<(aH xs).length:=by rw[<-r2.1];exact hk
          have:=r2.2 k hk';rw[aQm,aQr hk,aQs]at this;rw[Array.getElem_toList];refine this.isCell ?_;have hmem:=aRh hk';simp only[aH,List.mem_flatten,aRn]at hmem;obtain⟨l,⟨q,hq,rfl⟩,hql⟩:=hmem;exact aRo.1 (hc4 q hq).2 _ hql
         have hst:=tJ (P:=P) b' pos' elem arrx.toList 0 E.w arr g1 hcellx (by simpa using hfit);have hp:pos'+arrx.toList.length=off+(es.length+xs.length)*f.size:=by
          rw[aQq,hxsz,Nat.add_mul,<-hl3];omega
         have hlt:es.length<es.length+xs.length:=z8
         have hle':=aE.growIn_le ho hid hlt htb hkb arrx.toList hp;have hok':=aE.Ok.growIn ho hid hlt htb hkb arrx.toList hp;refine⟨_, .slice (some ⟨b',off,none⟩) (es.length+xs.length) caps, ?_,hle',hok',rfl, ?_⟩
         ·rw[hrun0];simp only[aQ1,r1,aQ2,dD,hl3,hst,aQ4];rfl
         ·refine NW (E:=E) hle'.view hs hc3 hxs rfl (λk hk=> ?_) rfl hle hmax ⟨hle'.view.born _ hborn,λt' ht'=> ?_⟩
          ·obtain⟨arr',q1,q2,q3⟩:=pZ b' pos' elem (0,0) arrx.toList 0 E.w arr g1;have hka:k<arrx.size:=by rw[hxsz];exact hk
           refine⟨arrx.getD k undef, ?_,λh=>(r2.2 k h).mono hle'.view⟩;refine aE.cell_of ?_ ?_
           ·simp only[aE.growIn,if_true,sD.stable,decide_eq_true_eq];rw[Nat.add_mul];omega
           ·show World.cell? (gL E.w ⟨b',pos',none⟩ arrx.toList 0) _=_;rw[jZ q1,q3 _ z8,if_pos (by rw[aQq (xs:=arrx),hxsz];omega)];rw[show off+es.length*f.size+k- (pos'+0)=k by omega];rw[aRc,aQm,aQr hka];rfl
          ·have hlen:=lG hid;simp only[aE.view,aE.growIn,aK hlen,if_true,htb,aQw,Option.some.injEq]at ht';subst ht';refine⟨aQj _,λ_=>.inr ⟨b',_,cend',off,rfl,rfl,rfl,hl4⟩⟩
        ·cases hl1
     ·cases hv
    ·cases hv
  ·
   rw[if_neg hle]at hrun0;obtain⟨c,hc6,hc7,hc8⟩:=oU (P:=P) (w:=E.w) (es.length+xs.length) caps e;have hcm:c<=maxLen:=by
    have:=hc8 (by have e2:maxLen=2^63-1:=rfl;omega);have e2:maxLen=2^63-1:=rfl;omega
   obtain⟨id,hid,rfl,rfl⟩:∃id,(E.H[id]? =some .unborn\/∃n0,E.H[id]? =some (.buf n0 f.size)/\n0<es.length+xs.length)/\v= .slice (es++xs) (.tok id)/\eff=some (id, .buf (es.length+xs.length) f.size):=by
    cases tl with
    |none=>simp at hv
    |full=>
     simp only[Option.some.injEq,Prod.mk.injEq]at hv;obtain⟨rfl,rfl⟩:=hv;exact⟨fresh, .inl (hfr _ rfl rfl),rfl,rfl⟩
    |tok id=>
     simp only at hv
     split at hv
     ·rename_i n sz hid
      split at hv
      ·rename_i hns;obtain⟨rfl,rfl⟩:=hns;cases hv;exact⟨id, .inr ⟨_,hid,z8⟩,rfl,rfl⟩
      ·cases hv
     ·cases hv
   have hd:=ho.drew;obtain⟨arrx,r1,r2⟩:=hxf _ hxs E.drew rfl;obtain⟨arrs,s1,s2,_⟩:=mN (P:=P) (E:=E.drew) hs hc3;have hxsz:arrx.size=xs.length*f.size:=by rw[r2.1,bL xs hxs]
   have hssz:arrs.size=es.length*f.size:=by rw[s2.1,bL es hc3]
   have hzl:=nT (V:=E.view) zv hzj (c- (es.length+xs.length))
   let arr:Array Value:=arrs++arrx++Builtin.zeroCells zv.cells (c- (es.length+xs.length))
   have harr:arr.size=c*f.size:=by
    simp only[arr,Array.size_append,hssz,hxsz,BN,hzv];rw[<-Nat.add_mul,<-Nat.add_mul];congr 1;omega
   have hle':=aE.newBuf_le (E:=E.drew) hd (n:=es.length+xs.length) (sz:=f.size) hid arr e ((es.length+xs.length)*f.size);have hok':=aE.Ok.newBuf (E:=E.drew) hd (n:=es.length+xs.length) (sz:=f.size) hid arr e ((es.length+xs.length)*f.size);have hlen:=sQ (E:=E.drew) (n:=es.length+xs.length) hid;refine⟨_, .slice (some ⟨E.w.heap.size,0,none⟩) (es.length+xs.length) c, ?_,E.drew_le.trans hle',hok',rfl, ?_⟩
   ·rw[hrun0];have hc6':(choose (.appendCap (es.length+xs.length) caps e)).run P E.w= .ok c E.drew.w:=hc6;simp only[aQ1,hc6',aQ2,BC,s1,r1,aQ4,Go.newRow,run_newObj];rfl
   ·have hall:∀q∈es++xs,q.cells.length=f.size:=by
     intro q hq;rcases aRp.1 hq with hq|hq
     ·exact hc3 q hq
     ·exact hxs q hq
    have hrl:=oG s2 r2;rw[<-cM]at hrl;have hfl:=bL _ hall;rw[aRf]at hfl;have hgd:∀k,k<(es.length+xs.length)*f.size->arr.getD k undef=(arrs++arrx).getD k undef:=by
     intro k hk;rw[aQm,aQm];rw[show arr=(arrs++arrx)++Builtin.zeroCells zv.cells (c- (es.length+xs.length))from rfl];rw[Array.getElem?_append_left (by rw[hrl.1,hfl];exact hk)]
    refine rH (sz:=f.size) (arr:=arr) (λk hk=> ?_) hall (λk hk=> ?_) aRf hc7 hcm ⟨⟨.buf (es.length+xs.length) f.size, ?_,z6⟩,λt' ht'=> ?_⟩
    ·rw[aRf]at hk;refine aE.cell_of ?_ ?_
     ·simp only[aE.newBuf,if_pos (show E.w.heap.size=E.drew.w.heap.size from rfl),sD.stable,decide_eq_true_eq];exact hk
     ·have hnew:(E.drew.newBuf id (es.length+xs.length) f.size arr e ((es.length+xs.length)*f.size)).w.heap[E.w.heap.size]? =some (.cells arr e (0,0)):=heap_alloc_new _ _;have hka:k<arr.size:=by
       rw[harr];have:(es.length+xs.length)*f.size<=c*f.size:=aRg _ hc7;omega
      rw[jZ hnew,aQm,aQr hka];rfl
    ·rw[hgd k (by rw[hfl]at hk;exact hk)];exact(hrl.2 k hk).mono hle'.view
    ·simp only[aE.newBuf];exact aQx hlen
    ·simp only[aE.view,aE.newBuf,aK hlen,if_true,aQw,Option.some.injEq]at ht';subst ht';refine⟨aQj _,λ_=>.inr ⟨E.w.heap.size,_,arr.size,0,rfl,rfl, ?_, ?_⟩⟩
     ·simp
     ·rw[harr];simp
 ·cases hv
theorem JX{t u ty:TypeId}{sv xv:Value}{s x:PV}(hs:aM E.view sv s)(hx:aM E.view xv x){ei:TypeId×TI}(hf:cN P t=some ei){z:PV}(hz:cF P ei.1=some z)
  (hu:(cN P u).isSome=true) (hzf:z.fits ei.2=true) {fresh:Nat} {v:PV} {eff:pH} (hv:eH ei.2 fresh E.H s x=some (v,eff)) (hfr:∀o,eff=some (fresh,o)->s≠ .junk->(∃es,s= .slice es .full)->E.H[fresh]? =some .unborn):
  ∃E' val,(Builtin.append_ #[t,u] ty #[sv,xv]).run P E.w= .ok val E'.w/\E.le E'/\E'.Ok/\E'.H=eff.app E.H/\aM E'.view val v:=by
 obtain⟨e,i⟩:=ei;obtain⟨h1,h2⟩:=cX hf;obtain⟨d,f,h3,h4,rfl⟩:=bQ h2;obtain⟨f',zv,h5,h6,rfl⟩:=eI hz;simp only at h5 hzf hv;rw[h4]at h5;cases h5;obtain⟨hzs,hzj⟩:=PV.fits_spec hzf;simp only at hzs;obtain⟨zc1,zc2⟩:=(dA E.view zv).not_junk_cells hzj;have hzv:zv.cells.size=f.size:=zc1.trans hzs;obtain⟨eu,hue⟩:∃eu,P.underlying u=some (.slice eu):=by
  cases hq:cN P u with
  |none=>rw[hq]at hu;cases hu
  |some q=>obtain⟨q1,q2⟩:=q;exact⟨q1,(cX hq).1⟩
 unfold eH at hv
 split at hv
 ·rename_i es tl xs tlx
  split at hv
  ·
   rename_i hx0;subst hx0;cases hv;obtain⟨ad,cap,rfl,hcap,hmax⟩:∃ad cap,sv= .slice ad es.length cap/\es.length<=cap/\cap<=maxLen:=by
    cases hs with
    |nils _ _=>exact⟨none,0,rfl,aQj _,aRk _⟩
    |slice ad len cap sz _ _ vs hlen hcap hmax hsz hc hr ht=>subst hlen;exact⟨some ad,cap,rfl,hcap,hmax⟩
   obtain⟨ax,cx,rfl⟩:∃ax cx,xv= .slice ax 0 cx:=by
    cases hx with
    |nils _ _=>exact⟨none,0,rfl⟩
    |slice ad len cap sz _ _ vs hlen hcap hmax hsz hc hr ht=>simp at hlen;subst hlen;exact⟨some ad,cap,rfl⟩
   refine⟨E, .slice ad es.length cap, ?_, .refl E,ho,rfl,hs⟩;have hfc:∀(v:Value),(∃ax cx,v= .slice ax 0 cx)->(Builtin.firstCells f.size 0 v).run P E.w= .ok #[] E.w:=by
    rintro v ⟨ax,cx,rfl⟩;cases ax<;>simp only[Builtin.firstCells,Nat.zero_mul,loadCells,loadCellsFrom,aQ4]
   simp only[Builtin.append_,aQ7,aRl,List.getElem?_cons_succ,aQ1,aS h1,dC h4,aS hue,aQ2,aQ4,Builtin.lenOf,Nat.add_zero,aQ9,if_false,
    aRm,if_true,hcap,hfc _ ⟨ax,cx,rfl⟩]
   cases ad<;>simp[storeCells]
  ·rename_i hx0;refine EN ho hs hx0 (λw=> ?_) (λsz hxs D hD=> ?_) hf hz (.inl ⟨_,hue⟩) hzf hv (λo h1 h2=>hfr o h1 z6 ⟨es,by rw[h2]⟩)
   ·cases hx with
    |nils _ _=>rfl
    |slice ad len cap sz _ _ vs hlen hcap hmax hsz hc hr ht=>subst hlen;rfl
   ·obtain⟨arrx,r1,r2,_⟩:=mN (P:=P) (E:=D) (by rw[hD];exact hx) hxs;exact⟨arrx,r1,by rw[hD]at r2;exact r2⟩
 ·cases hv
end ops
theorem TJ{P:Program}{w:World}{op:BinOp}{t:TypeId}{x y:Operand}{k k':IntKind}{a b:Int}:(eqGuard op t x y (.int k a) (.int k' b)).run P w= .ok () w:=by cases op<;>rfl
theorem OA{P:Program}{w:World}{op:BinOp}{t:TypeId}{x y:Operand}{a b:Bool}:(eqGuard op t x y (.bool a) (.bool b)).run P w= .ok () w:=by cases op<;>rfl
theorem TV{P:Program}{w:World}{op:BinOp}{t:TypeId}{x y:Operand}{a b:ByteArray}:(eqGuard op t x y (.string a) (.string b)).run P w= .ok () w:=by cases op<;>rfl
theorem yM{P:Program}{w:World}{op:BinOp}{t:TypeId}{x y:Operand}{a b:Option Addr}:(eqGuard op t x y (.pointer a) (.pointer b)).run P w= .ok () w:=by cases op<;>rfl
section ops
variable{P:Program}{E:aE}{N:Nat}{a:Act}{T:Nat->PV}(ht:eU E.view N a T)
theorem VM{op:BinOp}{xt:TypeId}{x y:Operand}{vx vy:Value}{px py:PV}(hx:aM E.view vx px)(hy:aM E.view vy py){v:PV}(hv:dT P op xt px py=some v):∃val,(do eqGuard op xt x y vx vy;binOp op xt vx vy:Sem Value).run P E.w= .ok val E.w/\aM E.view val v:=by
  unfold dT at hv
  split at hv
  ·
    rename_i k n k' n';obtain rfl:=hx.int_inv;obtain rfl:=hy.int_inv
    split at hv
    · rename_i hk
      subst hk;have hg:= @TJ P E.w op xt x y k k n n';cases op<;>simp only[aQ1,hg,aQ2]<;>simp only[reduceCtorEq,Option.some.injEq]at hv
      case add=>subst hv;exact⟨_,by simp only[binOp,ne_eq,not_true_eq_false,if_false,Op.intArith,aQ4], .int _ _⟩
      case sub=>subst hv;exact⟨_,by simp only[binOp,ne_eq,not_true_eq_false,if_false,Op.intArith,aQ4], .int _ _⟩
      case mul=>subst hv;exact⟨_,by simp only[binOp,ne_eq,not_true_eq_false,if_false,Op.intArith,aQ4], .int _ _⟩
      case quo=>
        split at hv
        · cases hv
        · rename_i hz;cases hv;exact⟨_,by simp only[binOp,ne_eq,not_true_eq_false,if_false,Op.intDiv,hz,aQ4], .int _ _⟩
      case rem=>
        split at hv
        · cases hv
        · rename_i hz;cases hv;exact⟨_,by simp only[binOp,ne_eq,not_true_eq_false,if_false,Op.intDiv,hz,aQ4], .int _ _⟩
      case eql=>subst hv;exact⟨.bool (n==n'),by simp only[binOp,ne_eq,not_true_eq_false,if_false,Op.intCmp,aQ4], .bool _⟩
      case neq=>subst hv;exact⟨.bool (n != n'),by simp only[binOp,ne_eq,not_true_eq_false,if_false,Op.intCmp,aQ4], .bool _⟩
      all_goals (subst hv;exact⟨_,by simp only[binOp,ne_eq,not_true_eq_false,if_false,Op.intCmp,aQ4], .bool _⟩)
    · cases hv
  ·
    rename_i b b';obtain rfl:=hx.bool_inv;obtain rfl:=hy.bool_inv
    split at hv
    · rename_i hb
      unfold aAz at hb
      split at hb
      · rename_i hu
        have hg:= @OA P E.w op xt x y b b';have he:(Op.equal xt (.bool b) (.bool b')).run P E.w= .ok (b==b') E.w:=by
          have key:∀d,(Op.equalIn (d+1) xt (.bool b) (.bool b')).run P E.w= .ok (b==b') E.w:=by
            intro d;simp only[Op.equalIn,aQ1,aS hu,aQ2,aQ4]
          exact key 9999
        cases op<;>simp only[aQ1,hg,aQ2]<;>simp only[reduceCtorEq,Option.some.injEq]at hv
        all_goals (subst hv;exact⟨_,by simp only[binOp,aQ1,he,aQ2,aQ4,aRq,aRm], .bool _⟩)
      · cases hb
    · cases hv
  ·
    rename_i s s';cases hx with
    |str s=>
      cases hy with
      |str s'=>
        have hg:= @TV P E.w op xt x y s s';have hsz:∀s:ByteArray,s.size=s.data.toList.length:=λs=>rfl;cases op<;>simp only[aQ1,hg,aQ2]<;>simp only[reduceCtorEq,Option.some.injEq]at hv
        case add=>
          split at hv
          · rename_i hl
            cases hv;have e1:IntKind.i64.max=9223372036854775807:=z7
            have e2:maxLen=9223372036854775807:=z7
            have hb:¬((s.size+s'.size:Nat):Int)>IntKind.i64.max:=by rw[e1,hsz,hsz];rw[e2]at hl;omega
            refine⟨.string (s++s'), ?_, ?_⟩
            · simp only[binOp,Op.stringOp,if_neg hb,Sem.run_ite,aQ4]
            · have:(s++s').data.toList=s.data.toList++s'.data.toList:=z6
              rw[<-this];exact .str _
          · cases hv
        all_goals (subst hv;refine⟨_,by simp only[binOp,Op.stringOp,aQ4];rfl, ?_⟩;simp only[ByteArray.toList_eq])
        · rw[show(s.data.toList==s'.data.toList)=decide (s.data.toList=s'.data.toList)by rw[aRr];simp];exact .bool _
        · rw[show(s.data.toList==s'.data.toList)=decide (s.data.toList=s'.data.toList)by rw[aRr];simp];exact .bool _
        · exact .bool _
  ·
    split at hv
    · rename_i hb
      unfold jR at hb
      split at hb
      · rename_i el hu
        cases hx;cases hy;have hg:= @yM P E.w op xt x y none none;have he:(Op.equal xt (.pointer none) (.pointer none)).run P E.w= .ok true E.w:=by
          have key:∀d,(Op.equalIn (d+1) xt (.pointer none) (.pointer none)).run P E.w= .ok true E.w:=by
            intro d;simp only[Op.equalIn,aQ1,aS hu,aQ2,aQ4,Option.isNone_none]
          exact key 9999
        cases op<;>simp only[aQ1,hg,aQ2]<;>simp only[reduceCtorEq,Option.some.injEq]at hv
        all_goals (subst hv;exact⟨_,by simp only[binOp,aQ1,he,aQ2,aQ4,aRq,aRm], .bool _⟩)
      · cases hb
    · cases hv
  · split at hv
    · rename_i hb
      unfold jR at hb
      split at hb
      · rename_i el hu
        obtain⟨ad,vs,rfl,_,_⟩:=hx.iptr_inv;cases hy;have hg:= @yM P E.w op xt x y (some ad) none;have he:(Op.equal xt (.pointer (some ad)) (.pointer none)).run P E.w= .ok false E.w:=by
          have key:∀d,(Op.equalIn (d+1) xt (.pointer (some ad)) (.pointer none)).run P E.w= .ok false E.w:=by
            intro d;simp only[Op.equalIn,aQ1,aS hu,aQ2,aQ4]
          exact key 9999
        cases op<;>simp only[aQ1,hg,aQ2]<;>simp only[reduceCtorEq,Option.some.injEq]at hv
        all_goals (subst hv;exact⟨_,by simp only[binOp,aQ1,he,aQ2,aQ4,aRq,aRm], .bool _⟩)
      · cases hb
    · cases hv
  · split at hv
    · rename_i hb
      unfold jR at hb
      split at hb
      · rename_i el hu
        obtain⟨rfl,_⟩:=hx.optr_inv;cases hy;have hg:=λad=> @yM P E.w op xt x y (some ad) none;have he:∀ad,(Op.equal xt (.pointer (some ad)) (.pointer none)).run P E.w= .ok false E.w:=by
          intro ad;have key:∀d,(Op.equalIn (d+1) xt (.pointer (some ad)) (.pointer none)).run P E.w= .ok false E.w:=by
            intro d;simp only[Op.equalIn,aQ1,aS hu,aQ2,aQ4]
          exact key 9999
        cases op<;>simp only[aQ1,hg,aQ2]<;>simp only[reduceCtorEq,Option.some.injEq]at hv
        all_goals (subst hv;exact⟨_,by simp only[binOp,aQ1,he,aQ2,aQ4,aRq,aRm], .bool _⟩)
      · cases hb
    · cases hv
  · cases hv
theorem XY{op:UnOp}{vx:Value}{px:PV}(hx:aM E.view vx px){v:PV}(hv:aun op px=some v):∃val,(Op.unary op vx).run P E.w= .ok val E.w/\aM E.view val v:=by
  unfold aun at hv
  split at hv
  · obtain rfl:=hx.bool_inv;cases hv;exact⟨_,rfl, .bool _⟩
  · obtain rfl:=hx.int_inv;cases hv;exact⟨_,rfl, .int _ _⟩
  · cases hv
theorem EJ{s d:TypeId}{vx:Value}{k0:IntKind}{n:Int}(hx:aM E.view vx (.int k0 n)){k:IntKind}(hk:JK P d=some k)(hs:(P.underlying s).isSome=true):∃val,(convert s d vx).run P E.w= .ok val E.w/\aM E.view val (.int k (k.wrap n)):=by
  obtain rfl:=hx.int_inv;unfold JK at hk
  split at hk
  · rename_i k' hu
    cases hk;cases hq:P.underlying s with
    |none=>rw[hq]at hs;cases hs
    |some ds=>
      refine⟨.int k (k.wrap n), ?_, .int _ _⟩;simp only[convert,aQ1,aS hq,aS hu,aQ2,Conv.intToInt,aQ4]
  · cases hk
theorem kD(n:Nat)(z:PV):aH (aQ3 n z)=(aQ3 n z.cells).flatten:=by simp[aH]
theorem AR(p:PV):p.drop1.cells=p.cells.map PV.drop0:=by cases p<;>rfl
theorem aM.elems_drop1{V:cQ}{v:Value}{es:List PV}{tl:iQ}(h:aM V v (.slice es tl)):aM V v (.slice (es.map PV.drop1) tl):=by
  cases h with
  |nils _ ht=>exact .nils _ ht
  |slice a len cap sz _ _ vs hlen hcap hmax hsz hc hr ht=>
    refine .slice a len cap sz _ _ vs (by simpa using hlen) hcap hmax (λi h=> ?_) hc (λi j hi hj=> ?_) ht
    · simp only[aQg,PV.drop1_cells_length];exact hsz i (by simpa using h)
    · have hi':i<es.length:=by simpa using hi
      have hj':j<(es[i].cells).length:=by simpa[PV.drop1_cells_length]using hj
      have h0:=(hr i j hi' hj').drop0;have he:(((es.map PV.drop1)[i]).cells)[j]=(es[i].cells)[j].drop0:=by
        simp only[aQg,AR]
      rw[he];exact h0
theorem AS(ho:E.Ok){t:TypeId}{lv cv:Value}{l c:PV}(hl:aM E.view lv l)(hc:aM E.view cv c){ei:TypeId×TI}(hf:cN P t=some ei){z:PV}(hz:cF P ei.1=some z){mt:Bool}{fresh:Nat}{v:PV}{eff:pH}(hv:kJ mt z ei.2 fresh l c=some (v,eff))(hfr:∀o,eff=some (fresh,o)->E.H[fresh]? =some .unborn):∃E' val,(Instr.makeSlice t lv cv).run P E.w= .ok val E'.w/\E.le E'/\E'.Ok/\E'.H=eff.app E.H/\aM E'.view val v:=by
  obtain⟨e,i⟩:=ei;obtain⟨h1,h2⟩:=cX hf;obtain⟨d,f,h3,h4,rfl⟩:=bQ h2;obtain⟨f',zv,h5,h6,rfl⟩:=eI hz;simp only at h5 hv;rw[h4]at h5;cases h5;unfold kJ at hv
  split at hv
  · rename_i l c
    obtain rfl:=hl.int_inv;obtain rfl:=hc.int_inv
    split at hv
    · rename_i hcnd
      obtain⟨c1,c2,c3,c4,c5,c6⟩:=hcnd;simp only at c3 c5 c6;obtain⟨hzs,hzj⟩:=PV.fits_spec c5;simp only at hzs;obtain⟨zc1,zc2⟩:=(dA E.view zv).not_junk_cells hzj;have hzv:zv.cells.size=f.size:=zc1.trans hzs;have e2:maxLen=9223372036854775807:=z7
      have hw:∀n:Int,0<=n->n<=maxLen->IntKind.i64.wrap n=n:=by
        intro n h0 h1;rw[e2]at h1;simp[IntKind.wrap,IntKind.bits,IntKind.signed];omega
      have hwl:=hw l c1 z8;have hwc:=hw c z8 c4;have htl:¬((f.bytes:Int)*c>2^48):=by
        rw[Int.mul_comm];have:(2:Int)^47<=2^48:=z7
        omega
      let arr:Array Value:=(Array.range (c.toNat*f.size)).map (zv.cells[· %zv.cells.size]!)
      have hrl0:=nT (V:=E.view) zv hzj c.toNat
      rw[hzv]at hrl0;have harr:arr.size=c.toNat*f.size:=by simp[arr]
      have hrun:(Instr.makeSlice t (.int .i64 l) (.int .i64 c)).run P E.w= .ok (.slice (some ⟨E.w.heap.size,0,none⟩) l.toNat c.toNat) (E.w.alloc (.cells arr e)):=by
        simp only[Instr.makeSlice,aQ1,aS h1,aQ2,asInt,asIntOf,aQ4,oI h4,hwl,hwc];have hn1:¬c<0:=z8
        have hn2:¬l<0:=z8
        have hn3:¬l>c:=z8
        simp only[hn1,hn2,hn3,htl,decide_false,Bool.or_self,aQ9,if_false,aQ1,BC,aQ2,dC h4]
        by_cases h0:c.toNat*f.size=0
        · simp only[h0,if_true,aQ4,aQ2,newRow,aQ1,run_newObj]
          have:arr= #[]:=by simp only[arr,h0];simp
          rw[this];simp[Array.range]
        · simp only[if_neg h0,aQ1,hO h4 h6,aQ2,aQ4,newRow,run_newObj]
          simp only[arr,hzv];rfl
      have hes:∀q∈aQ3 c.toNat (aU zv),q.cells.length=f.size:=by
        intro q hq;rw[(List.mem_replicate.1 hq).2,hzs]
      have hrl:RL E.view arr (aH (aQ3 c.toNat (aU zv))):=by
        simp only[arr,hzv];exact hrl0
      have hcm:c.toNat<=maxLen:=z8
      split at hv
      ·
        cases hv;have hid:=hfr _ rfl;rw[kD]at hrl;refine⟨E.newRow fresh arr e _,_,hrun,aE.newRow_le ho hid _ _ _,aE.Ok.newRow ho hid arr e _ hrl.1 hrl.2,rfl, ?_⟩;have:=aM.msl (V:=(E.newRow fresh arr e ((aQ3 c.toNat (aU zv).cells).flatten)).view) fresh 0 l.toNat c.toNat
          ⟨.row _,by simp only[aE.newRow];exact aQx (lG hid),z6⟩ hcm
        simpa[aE.view,aE.newRow]using this
      · split at hv
        · rename_i hlc
          subst hlc;cases hv;have hle:=aE.newFixed_le ho (.cells arr e);refine⟨E.newFixed (.cells arr e),_,hrun,hle,ho.newFixed _,rfl, ?_⟩;rw[<-List.map_replicate];exact(mE (sz:=f.size) qV hes (hrl.mono hle.view) z6 hcm).elems_drop1
        · rename_i hlc
          cases hv;have hid:=hfr _ rfl;have hle:=aE.newBuf_le ho (n:=l.toNat) (sz:=f.size) (.inl hid) arr e (l.toNat*f.size);have hlen:=lG hid;refine⟨E.newBuf fresh l.toNat f.size arr e (l.toNat*f.size),_,hrun,hle,aE.Ok.newBuf ho (.inl hid) arr e _,rfl, ?_⟩;have hlen2:(aQ3 l.toNat (aU zv)).length=l.toNat:=z6
          have hes':∀q∈aQ3 l.toNat (aU zv),q.cells.length=f.size:=by
            intro q hq;rw[(List.mem_replicate.1 hq).2,hzs]
          have hle2:l.toNat*f.size<=c.toNat*f.size:=aRg _ z8;have hfl:=bL _ hes';rw[hlen2]at hfl;have hfl2:=bL _ hes;rw[List.length_replicate]at hfl2;rw[<-List.map_replicate];refine aM.elems_drop1 (rH (sz:=f.size) (arr:=arr) (λk hk=> ?_) hes' (λk hk=> ?_) hlen2 z8 hcm ⟨⟨.buf l.toNat f.size, ?_,z6⟩,λt' ht'=> ?_⟩)
          · rw[hlen2]at hk
            refine aE.cell_of ?_ ?_
            · simp only[aE.newBuf,if_true,sD.stable,decide_eq_true_eq];exact hk
            · have hnew:(E.newBuf fresh l.toNat f.size arr e (l.toNat*f.size)).w.heap[E.w.heap.size]? =some (.cells arr e (0,0)):=heap_alloc_new _ _
              rw[jZ hnew,aQm,aQr z8];rfl
          · rw[hfl]at hk
            have hk2:k<(aH (aQ3 c.toNat (aU zv))).length:=by rw[hfl2];omega
            have h':=hrl.2 k hk2;have heq:(aH (aQ3 l.toNat (aU zv)))[k]'(by rw[hfl];exact hk)=(aH (aQ3 c.toNat (aU zv)))[k]:=by
              have:aQ3 c.toNat (aU zv)=aQ3 l.toNat (aU zv)++aQ3 (c.toNat-l.toNat) (aU zv):=by
                rw[List.replicate_append_replicate];congr 1;omega
              have h3:aH (aQ3 c.toNat (aU zv))=aH (aQ3 l.toNat (aU zv))++aH (aQ3 (c.toNat-l.toNat) (aU zv)):=by rw[this,cM]
              have h4:=aQt (l₂:=aH (aQ3 (c.toNat-l.toNat) (aU zv))) (show k<(aH (aQ3 l.toNat (aU zv))).length by rw[hfl];exact hk);rw[<-h3,aRa hk2,aRa (by rw[hfl];exact hk)]at h4;simpa using h4.symm
            rw[heq];exact h'.mono hle.view
          · simp only[aE.newBuf];exact aQx hlen
          · simp only[aE.view,aE.newBuf,aK hlen,if_true,aQw,Option.some.injEq]at ht'
            subst ht';refine⟨aQj _,λ_=>.inr ⟨E.w.heap.size,_,arr.size,0,rfl,rfl, ?_, ?_⟩⟩
            · simp
            · rw[harr];simp
    · cases hv
  · cases hv
end ops
theorem oB{α β:Type}{o:Option α}{f:α->Option β}{b:β}(h:o.bind f=some b):∃a,o=some a/\f a=some b:=Option.bind_eq_some_iff.mp h
def aE.newObj(E:aE)(id:Nat)(o:Obj)(k:rI):aE:=
 {w:=E.w.alloc o,κ:=λb=>if b=E.w.heap.size then .mut else E.κ b,ρ:=λi=>if i=id then E.w.heap.size else E.ρ i,tb:=E.tb,H:=E.H.set id (.obj k)}
section newObj
variable{E:aE}(h:E.Ok){id:Nat}(hi:E.H[id]? =some .unborn)(o:Obj)(k:rI)
include h hi
theorem aE.newObj_view:E.view.le (E.newObj id o k).view:=by
 have hlen:=lG hi;have hne:∀x,pC E.H x->x≠id:=by rintro x ⟨o,h1,h2⟩ rfl;rw[hi]at h1;cases h1;exact h2 rfl
 refine⟨λa v hc=> ?_,λx hb=> ?_,λx hb=> ?_,λx t' hb ht=>⟨t', ?_, .inl rfl⟩⟩
 ·have hl:=cell?_lt (aE.cell_stable hc);simp only[aE.view]at hc⊢
  split at hc
  ·rename_i hs;have hne:a.block≠E.w.heap.size:=z8
   simp only[aE.newObj,if_neg hne,hs,if_true];rw[cell?_congr (heap_alloc _ _ _ hl)];exact hc
  ·cases hc
 ·have:=hne x hb;obtain⟨o,h1,h2⟩:=hb;exact⟨o,by simp only[aE.newObj,aK hlen,if_neg this];exact h1,h2⟩
 ·simp only[aE.view,aE.newObj,if_neg (hne x hb)]
 ·have:=hne x hb;simp only[aE.view,aE.newObj,aK hlen,if_neg this]at ht⊢
  split at ht
  ·rename_i n sz hx;rw[<-ht];cases htb:E.tb x with
   |none=>rfl
   |some b=>
    have:=h.bufBlock hx htb;have hne:b≠E.w.heap.size:=z8
    simp only[aQw,if_neg hne]
  ·cases ht
theorem aE.newObj_le:E.le (E.newObj id o k):=by
 have hlen:=lG hi;refine⟨rfl,rfl,rfl,by simp[aE.newObj],λb hb _=>⟨?_,heap_alloc _ _ _ hb⟩,aE.newObj_view h hi o k,λb hb=>Or.imp ?_ (Or.imp ?_ ?_)⟩
 ·have hne:b≠E.w.heap.size:=z8
  simp only[aE.newObj,if_neg hne]
 ·rintro⟨x,cs',h1,h2⟩;simp only[aE.newObj,aK hlen]at h1 h2
  split at h1
  ·cases h1
  ·rename_i e;rw[if_neg e]at h2;exact⟨x,cs',h1,h2⟩
 ·rintro⟨x,n,sz,h1,h2⟩;simp only[aE.newObj,aK hlen]at h1 h2
  split at h1
  ·cases h1
  ·exact⟨x,n,sz,h1,h2⟩
 ·rintro⟨x,k',h1,h2⟩;simp only[aE.newObj,aK hlen]at h1 h2
  split at h1
  ·rename_i e;rw[if_pos e]at h2;omega
  ·rename_i e;rw[if_neg e]at h2;exact⟨x,k',h1,h2⟩
theorem aE.Ok.newObj(hr:OR E.view k o):(E.newObj id o k).Ok:=by
 have hlen:=lG hi;have hv:=aE.newObj_view h hi o k;refine⟨?_, ?_, ?_, ?_,h.globs_of hv.cell (by intro x b vs hx;simp only[aE.newObj,aK hlen]at hx;split at hx<;>first|exact hx|cases hx), ?_, ?_⟩
 ·intro x cs' hx;simp only[aE.newObj,aK hlen]at hx
  split at hx
  ·cases hx
  ·rename_i e;have hl:=h.rowBlock hx;obtain⟨arr',elem',h1,h2,h3,h4⟩:=h.rows x cs' hx;have hne:E.ρ x≠E.w.heap.size:=z8
   refine⟨arr',elem', ?_,h2,λi hl=>(h3 i hl).mono hv, ?_⟩
   ·simp only[aE.newObj,if_neg e];rw[<-h1];exact heap_alloc _ _ _ hl
   ·simp only[aE.newObj,if_neg e,if_neg hne];exact h4
 ·intro x n sz b hx hb;simp only[aE.newObj,aK hlen]at hx hb
  split at hx
  ·cases hx
  ·have hl:=h.bufBlock hx hb;obtain⟨arr',elem',pos,h1,h2⟩:=h.bufs x n sz b hx hb;have hne:b≠E.w.heap.size:=z8
   exact⟨arr',elem',pos,by rw[<-h1];exact heap_alloc _ _ _ hl,by simp only[aE.newObj,if_neg hne];exact h2⟩
 ·intro x x' c c' h1 h2 e;simp only[aE.newObj,aK hlen]at h1 h2 e
  split at h1<;>split at h2
  ·cases h1
  ·cases h1
  ·cases h2
  ·rename_i a b;rw[if_neg a,if_neg b]at e;exact h.injr x x' c c' h1 h2 e
 ·intro x x' n sz n' sz' b h1 h2 e e';simp only[aE.newObj,aK hlen]at h1 h2 e e'
  split at h1<;>split at h2
  ·cases h1
  ·cases h1
  ·cases h2
  ·exact h.injb x x' n sz n' sz' b h1 h2 e e'
 ·intro x k' hx;simp only[aE.newObj,aK hlen]at hx
  split at hx
  ·rename_i e;cases hx;exact⟨⟨o,by simp only[aE.newObj,if_pos e];exact heap_alloc_new _ _,hr.mono hv⟩,by simp only[aE.newObj,if_pos e,if_true]⟩
  ·rename_i e;have hl:=h.objs.lt hx;obtain⟨⟨o',a1,a2⟩,a3⟩:=h.objs.at_ x k' hx;refine⟨⟨o', ?_,a2.mono hv⟩, ?_⟩
   ·simp only[aE.newObj,if_neg e];rw[<-a1];exact heap_alloc _ _ _ hl
   ·simp only[aE.newObj,if_neg e,if_neg (Nat.ne_of_lt hl)];exact a3
 ·intro x x' c c' h1 h2 e;simp only[aE.newObj,aK hlen]at h1 h2 e
  split at h1<;>split at h2
  ·omega
  ·rename_i a b;rw[if_pos a,if_neg b]at e;have:=h.objs.lt h2;omega
  ·rename_i a b;rw[if_neg a,if_pos b]at e;have:=h.objs.lt h1;omega
  ·rename_i a b;rw[if_neg a,if_neg b]at e;exact h.objs.inj x x' c c' h1 h2 e
end newObj
def aE.setObj(E:aE)(id:Nat)(w':World)(k:rI):aE:= {E with w:=w',H:=E.H.set id (.obj k)}
structure World.Turned(w w':World)(b:Nat):Prop where
 os:w'.os=w.os
 tape:w'.tape=w.tape
 output:w'.output=w.output
 size:w'.heap.size=w.heap.size
 other:∀x,x≠b->w'.heap[x]? =w.heap[x]?
section setObj
variable{E:aE}(h:E.Ok){id:Nat}{k0:rI}(hi:E.H[id]? =some (.obj k0)){w':World}(ht:World.Turned E.w w' (E.ρ id))(k:rI)
include h hi ht
theorem aE.setObj_view:E.view.le (E.setObj id w' k).view:=by
 have hlen:=lG hi;obtain⟨_,hk⟩:=h.objs.at_ id k0 hi;refine⟨λa u hc=> ?_,λx hb=> ?_,λx hb=>rfl,λx t' hb hx=>⟨t', ?_, .inl rfl⟩⟩
 ·simp only[aE.view]at hc⊢
  split at hc
  ·rename_i hs;have hne:a.block≠E.ρ id:=by intro e;rw[e,hk]at hs;simp[sD.stable]at hs
   simp only[aE.setObj,hs,if_true];rw[cell?_congr (ht.other _ hne)];exact hc
  ·cases hc
 ·obtain⟨o,a1,a2⟩:=hb
  by_cases e:x=id
  ·exact⟨.obj k,by simp only[aE.setObj,aK hlen,if_pos e],z6⟩
  ·exact⟨o,by simp only[aE.setObj,aK hlen,if_neg e];exact a1,a2⟩
 ·by_cases e:x=id
  ·simp only[aE.view,aE.setObj,aK hlen,if_pos e]at hx;cases hx
  ·simp only[aE.view,aE.setObj,aK hlen,if_neg e]at hx⊢;exact hx
theorem aE.setObj_le:E.le (E.setObj id w' k):=by
 have hlen:=lG hi;refine⟨ht.os,ht.tape,ht.output,by show _<=w'.heap.size;rw[ht.size];exact aQj _,λb hb hn=>⟨rfl,ht.other _ λe=>hn (.inr (.inr ⟨id,k0,hi,e.symm⟩))⟩,aE.setObj_view h hi ht k,λb hb=>Or.imp ?_ (Or.imp ?_ ?_)⟩
 ·rintro⟨x,cs',a1,a2⟩;simp only[aE.setObj,aK hlen]at a1 a2
  split at a1
  ·cases a1
  ·exact⟨x,cs',a1,a2⟩
 ·rintro⟨x,n,sz,a1,a2⟩;simp only[aE.setObj,aK hlen]at a1 a2
  split at a1
  ·cases a1
  ·exact⟨x,n,sz,a1,a2⟩
 ·rintro⟨x,k',a1,a2⟩;simp only[aE.setObj,aK hlen]at a1 a2
  split at a1
  ·rename_i e;exact⟨id,k0,hi,by rw[<-e];exact a2⟩
  ·exact⟨x,k',a1,a2⟩
theorem aE.Ok.setObj(hr:∃o,w'.heap[E.ρ id]? =some o/\OR E.view k o):(E.setObj id w' k).Ok:=by
 have hlen:=lG hi;have hle:=aE.setObj_view h hi ht k;obtain⟨⟨o0,h1,h2⟩,h3⟩:=h.objs.at_ id k0 hi;refine⟨?_, ?_, ?_, ?_,h.globs_of hle.cell (by intro x b vs hx;simp only[aE.setObj,aK hlen]at hx;split at hx<;>first|exact hx|cases hx), ?_, ?_⟩
 ·intro x cs' hx;simp only[aE.setObj,aK hlen]at hx
  split at hx
  ·cases hx
  ·obtain⟨arr',elem',b1,b2,b3,b4⟩:=h.rows x cs' hx;have hne:E.ρ x≠E.ρ id:=λq=>by rw[q,h1]at b1;cases b1;exact h2.cells
   exact⟨arr',elem',by rw[<-b1];exact ht.other _ hne,b2,λi hl=>(b3 i hl).mono hle,b4⟩
 ·intro x n sz b hx hb;simp only[aE.setObj,aK hlen]at hx hb
  split at hx
  ·cases hx
  ·obtain⟨arr',elem',pos,b1,b2⟩:=h.bufs x n sz b hx hb;have hne:b≠E.ρ id:=by intro q;rw[q,h3]at b2;cases b2
   exact⟨arr',elem',pos,by rw[<-b1];exact ht.other _ hne,b2⟩
 ·intro x x' c c' a1 a2 e;simp only[aE.setObj,aK hlen]at a1 a2 e
  split at a1<;>split at a2
  ·cases a1
  ·cases a1
  ·cases a2
  ·exact h.injr x x' c c' a1 a2 e
 ·intro x x' n sz n' sz' b a1 a2 e e';simp only[aE.setObj,aK hlen]at a1 a2 e e'
  split at a1<;>split at a2
  ·cases a1
  ·cases a1
  ·cases a2
  ·exact h.injb x x' n sz n' sz' b a1 a2 e e'
 ·intro x k' hx;simp only[aE.setObj,aK hlen]at hx
  split at hx
  ·rename_i e;cases hx;subst e;obtain⟨o,b1,b2⟩:=hr;exact⟨⟨o,b1,b2.mono hle⟩,h3⟩
  ·rename_i e;obtain⟨⟨o,b1,b2⟩,b3⟩:=h.objs.at_ x k' hx;have hne:E.ρ x≠E.ρ id:=λq=>e (h.objs.inj x id k' k0 hx hi q);exact⟨⟨o,by rw[<-b1];exact ht.other _ hne,b2.mono hle⟩,b3⟩
 ·intro x x' c c' a1 a2 e;simp only[aE.setObj,aK hlen]at a1 a2 e;have fix:∀y d,(if y=id then some (AObj.obj k)else E.H[y]?)=some (.obj d)->∃d',E.H[y]? =some (.obj d'):=by
   intro y d q
   split at q
   ·rename_i e;subst e;exact⟨k0,hi⟩
   ·exact⟨d,q⟩
  obtain⟨d,hd⟩:=fix _ _ a1;obtain⟨d',hd'⟩:=fix _ _ a2;exact h.objs.inj x x' d d' hd hd' e
end setObj
section
variable{P:Program}
theorem FX{t e:TypeId}(h:aBa P t=some e):∃k,P.underlying t=some (.map k e)/\P.underlying k=some (.int .i64):=by
 unfold aBa at h
 split at h
 ·rename_i k e' hu
  split at h
  ·rename_i hk;cases h;exact⟨k,hu,hk⟩
  ·cases h
 ·cases h
theorem MJ:∀(es:List (Int×PV)) (n:Int) (j i:Nat) (v:PV),sY es n j=some (i,v)->j<=i/\i<j+es.length
 | [],n,j,i,v,h=>by cases h
 |e::es,n,j,i,v,h=>by
  simp only[sY]at h
  split at h
  ·cases h;simp
  ·have:=MJ es n (j+1) i v h;simp only[aQ0];omega
theorem sI{V:cQ}:∀(ms:List MapEntry) (es:List (Int×PV)) (n:Int) (j:Nat),lK V ms es->
  (sY es n j=none/\Instr.findNow (.int .i64) (.int .i64 n) ms j=some none)\/∃i v p,sY es n j=some (i,p)/\Instr.findNow (.int .i64) (.int .i64 n) ms j=some (some (i,v))/\aM V v p
 | [],[],n,j,_=>.inl ⟨rfl,rfl⟩
 |m::ms,e::es,n,j,h=>by
  obtain⟨h1,h2,h3⟩:=h;simp only[sY,Instr.findNow,h1,Instr.sameNow,if_true]
  by_cases hn:e.1=n
  ·right;subst hn;refine⟨j,m.val,e.2,by rw[if_pos rfl], ?_,h2⟩;simp
  ·have e1:(n==e.1)=false:=by simpa using λq=>hn q.symm
   rw[if_neg hn,e1];exact sI ms es n (j+1) h3
 | [],_::_,n,j,h=>h.elim
 |_::_,[],n,j,h=>h.elim
theorem nU{k:TypeId}(hk:P.underlying k=some (.int .i64))(b:Bool)(n:Int)(w:World):(Instr.checkKey b 10000 k (.int .i64 n)).run P w= .ok () w:=by
 rw[show(10000:Nat)=Nat.succ 9999 from rfl,Instr.checkKey.eq_2];simp only[aQ1,aS hk,aQ2,aQ4]
theorem sG{w:World}{b:Nat}{ms:Array MapEntry}{c:Nat}(h:w.heap[b]? =some (.map ms c)):(getObj b).run P w= .ok (.map ms c) w:=by
 simp[getObj,Sem.run,h]
theorem CN{w:World}{b:Nat}{ms:Array MapEntry}{c:Nat}{o':Obj}(h:w.heap[b]? =some (.map ms c)):(setObj b o').run P w= .ok () {w with heap:=w.heap.setIfInBounds b o'}:=by
 simp[setObj,Sem.run,h]
theorem lK.set{V:cQ}{n:Int}{v:Value}{p:PV}(hv:aM V v p):∀ {ms:List MapEntry} {es:List (Int×PV)} (i:Nat),lK V ms es->lK V (ms.modify i λ(e:MapEntry)=> {e with key:=.int .i64 n,val:=v}) (es.set i (n,p))
 | [],[],i,_=>by simp[lK]
 |m::ms,e::es,0,h=>⟨rfl,hv,h.2.2⟩
 |m::ms,e::es,i+1,h=>⟨h.1,h.2.1,lK.set hv i h.2.2⟩
 | [],_::_,i,h=>h.elim
 |_::_,[],i,h=>h.elim
theorem lK.app{V:cQ}{n:Int}{v:Value}{p:PV}{c:Nat}(hv:aM V v p):∀ {ms:List MapEntry} {es:List (Int×PV)},lK V ms es->lK V (ms++ [{key:=.int .i64 n,val:=v,born:=c}]) (es++ [(n,p)])
 | [],[],_=>⟨rfl,hv,trivial⟩
 |m::ms,e::es,h=>⟨h.1,h.2.1,lK.app hv h.2.2⟩
 | [],_::_,h=>h.elim
 |_::_,[],h=>h.elim
theorem FW:∀(es:List (Int×PV)) (n:Int) (j i:Nat) (v:PV),sY es n j=some (i,v)->es[i-j]? =some (n,v)
 | [],n,j,i,v,h=>by cases h
 |e::es,n,j,i,v,h=>by
  simp only[sY]at h
  split at h
  ·rename_i he;cases h;subst he;simp
  ·have h1:=MJ es n (j+1) i v h;have:=FW es n (j+1) i v h;rw[show i-j=(i- (j+1))+1 by omega,List.getElem?_cons_succ];exact this
theorem CH:∀(es:List (Int×PV)) (n:Int) (j:Nat),sY es n j=none->n∉es.map (·.1)
 | [],n,j,h=>z6
 |e::es,n,j,h=>by
  simp only[sY]at h
  split at h
  ·cases h
  ·rename_i he;have:=CH es n (j+1) h;simp only[aRd,aRs,not_or];exact⟨λq=>he q.symm,this⟩
theorem NH(es:List (Int×PV))(i:Nat)(n:Int)(p q:PV)(h:es[i]? =some (n,q)):(es.set i (n,p)).map (·.1)=es.map (·.1):=by
 apply List.ext_getElem?;intro j;rw[aQ8,aQ8]
 by_cases e:i=j
 ·subst e;have hl:i<es.length:=(List.getElem?_eq_some_iff.1 h).1;rw[aQx hl,h];rfl
 ·rw[aQy e]
theorem AT(ms:List MapEntry)(i:Nat)(f:MapEntry->MapEntry)(hf:∀e,(f e).born=e.born):(ms.modify i f).map (·.born)=ms.map (·.born):=by
 apply List.ext_getElem?;intro j;rw[aQ8,aQ8,List.getElem?_modify];cases ms[j]? with
 |none=>rfl
 |some m=>by_cases e:i=j<;>simp[e,hf]
variable{E:aE}{N:Nat}{a:Act}{T:Nat->PV}(ho:E.Ok)
include ho
theorem JF{t:TypeId}{xv kv:Value}{x k p:PV}{ok:Bool}(hx:aM E.view xv x)(hk:aM E.view kv k)(h:kF P E.H t x k ok=some p):∃val,(Instr.lookup t xv kv ok).run P E.w= .ok val E.w/\aM E.view val p:=by
 unfold kF at h
 split at h
 ·rename_i id n
  split at h
  ·rename_i es hid;obtain⟨e,he,h⟩:=oB h;obtain⟨z,hz,h⟩:=oB h;cases h;obtain⟨kt,ht,hkt⟩:=FX he;obtain⟨f',zv,h5,h6,rfl⟩:=eI hz;obtain⟨⟨o,b1,b2⟩,_⟩:=ho.objs.at_ id _ hid;obtain⟨ms,c,rfl,hm,_,_,_⟩:=b2;have hx':xv= .map (some (E.ρ id)):=by cases hx;rfl
   have hk':kv= .int .i64 n:=by cases hk;rfl
   subst hx' hk';have hf:=sI ms es n 0 hm;unfold aNx;rcases hf with⟨f1,f2⟩| ⟨i,v,q,f1,f2,f3⟩
   ·refine⟨if ok then .tuple #[zv, .bool false]else zv, ?_, ?_⟩
    ·simp only[Instr.lookup,aQ1,aS ht,aS hkt,sG b1,nU hkt,Instr.findKey,aQ2,aQ4,List.toList_toArray,f2,hO h5 h6]
    ·rw[f1];simp only[aRi,DS];have hz:=dA E.view zv;cases ok
     ·exact hz
     ·refine .tup _ _ rfl λi hi=> ?_
      match i,hi with
      |0,_=>exact hz
      |1,_=>exact .bool _
   ·refine⟨if ok then .tuple #[v, .bool true]else v, ?_, ?_⟩
    ·simp only[Instr.lookup,aQ1,aS ht,aS hkt,sG b1,nU hkt,Instr.findKey,aQ2,aQ4,List.toList_toArray,f2]
    ·rw[f1];simp only[aQz,DS];cases ok
     ·exact f3
     ·refine .tup _ _ rfl λi hi=> ?_
      match i,hi with
      |0,_=>exact f3
      |1,_=>exact .bool _
  ·cases h
 ·cases h
theorem JR{t:TypeId}{xv kv vv:Value}{x k v:PV}{e:Nat×AObj}(hx:aM E.view xv x)(hk:aM E.view kv k)(hv:aM E.view vv v)(h:lO P E.H t x k v=some e):
  ∃E',(Instr.mapUpdate t xv kv vv).run P E.w= .ok () E'.w/\E.le E'/\E'.Ok/\E'.H=E.H.set e.1 e.2:=by
 unfold lO at h
 split at h
 ·rename_i id n
  split at h
  ·rename_i es hid
   split at h
   ·rename_i hs;cases h;obtain⟨et,he⟩:=Option.isSome_iff_exists.1 hs;obtain⟨kt,ht,hkt⟩:=FX he;obtain⟨⟨o,b1,b2⟩,_⟩:=ho.objs.at_ id _ hid;obtain⟨ms,c,rfl,hm,hb,hn,hkn⟩:=b2;have hx':xv= .map (some (E.ρ id)):=by cases hx;rfl
    have hk':kv= .int .i64 n:=by cases hk;rfl
    subst hx' hk';have hlt:=ho.objs.lt hid;have hd:=hv.drop1;have turned:∀o',World.Turned E.w {E.w with heap:=E.w.heap.setIfInBounds (E.ρ id) o'} (E.ρ id):=λo'=>
     ⟨rfl,rfl,rfl,z6,λy hy=>by simp[Ne.symm hy]⟩
    have at_:∀o',({E.w with heap:=E.w.heap.setIfInBounds (E.ρ id) o'}:World).heap[E.ρ id]? =some o':=λo'=>by simp[hlt]
    rcases sI ms es n 0 hm with⟨f1,f2⟩| ⟨i,v0,q,f1,f2,f3⟩
    ·have hms:aB2 es n v.drop1=es++ [(n,v.drop1)]:=by unfold aB2;rw[f1]
     rw[hms];have hor:OR E.view (.mapo (es++ [(n,v.drop1)])) (.map (ms++ [({key:=.int .i64 n,val:=vv,born:=c}:MapEntry)]).toArray (c+1)):=by
      refine⟨_,_,rfl,lK.app hd hm,by simp[hb], ?_, ?_⟩
      ·rw[aRt,hn,aRf,aQh,List.range_succ,hb];rfl
      ·rw[aRt,List.nodup_append];refine⟨hkn,z6, ?_⟩;intro x hx y hy;simp at hy;subst hy;rintro rfl;exact CH _ _ _ f1 hx
     refine⟨E.setObj id {E.w with heap:=E.w.heap.setIfInBounds (E.ρ id) (.map (ms++ [({key:=.int .i64 n,val:=vv,born:=c}:MapEntry)]).toArray (c+1))} (.mapo (es++ [(n,v.drop1)])), ?_,aE.setObj_le ho hid (turned _) _,ho.setObj hid (turned _) _ ⟨_,at_ _,hor⟩,rfl⟩;simp only[Instr.mapUpdate,aQ1,aS ht,aS hkt,sG b1,nU hkt,Instr.findKey,aQ2,aQ4,List.toList_toArray,f2,CN b1,List.push_toArray];rfl
    ·have hms:aB2 es n v.drop1=es.set i (n,v.drop1):=by unfold aB2;rw[f1]
     rw[hms];have hkey:=FW es n 0 i q f1;rw[Nat.sub_zero]at hkey;have hor:OR E.view (.mapo (es.set i (n,v.drop1))) (.map (ms.modify i λ(e:MapEntry)=> {e with key:=.int .i64 n,val:=vv}).toArray c):=by
      refine⟨_,_,rfl,lK.set hd i hm,by rw[List.length_modify];exact hb, ?_, ?_⟩
      ·rw[AT ms i (λ(e:MapEntry)=> {e with key:=.int .i64 n,val:=vv}) (λ_=>rfl),List.length_modify];exact hn
      ·rw[NH es i n _ q hkey];exact hkn
     have hkold:((ms.toArray[i]?).map (·.key)).getD (.int .i64 n)= .int .i64 n:=by
      have:∀(ms:List MapEntry) (es:List (Int×PV)) (i:Nat),lK E.view ms es->es[i]? =some (n,q)->(ms[i]?).map (·.key)=some (.int .i64 n):=by
       intro ms
       induction ms with
       |nil=>intro es i h h2;cases es with|nil=>cases h2|cons _ _=>exact h.elim
       |cons m ms ih=>
        intro es i h h2;cases es with
        |nil=>exact h.elim
        |cons e es=>
         cases i with
         |zero=>simp only[aRl,Option.some.injEq]at h2;simp[h.1,h2]
         |succ i=>exact ih es i h.2.2 h2
      have:=this ms es i hm hkey;rw[aQ7,this];rfl
     refine⟨E.setObj id {E.w with heap:=E.w.heap.setIfInBounds (E.ρ id) (.map (ms.modify i λ(e:MapEntry)=> {e with key:=.int .i64 n,val:=vv}).toArray c)} (.mapo (es.set i (n,v.drop1))), ?_,aE.setObj_le ho hid (turned _) _,ho.setObj hid (turned _) _ ⟨_,at_ _,hor⟩,rfl⟩;have hsame:Instr.sameBits 10000 (.int .i64 n) (.int .i64 n)=true:=by
      show Instr.sameBits (9999+1) _ _=true;simp[Instr.sameBits]
     simp only[Instr.mapUpdate,aQ1,aS ht,aS hkt,sG b1,nU hkt,Instr.findKey,aQ2,aQ4,List.toList_toArray,f2,hkold,Instr.keyThatStays,hsame,if_true,CN b1,List.modify_toArray];rfl
   ·cases h
  ·cases h
 ·cases h
end
def cH(N:Nat)(o:Op):Bool:=o.operands.toList.all (aQ N)
theorem CE{V:cQ}{N:Nat}{a:Act}{T:Nat->PV}(ht:eU V N a T)(xs:Array Operand)(h:xs.toList.all (aQ N)=true):
  RL V (xs.map a.eval) (xs.toList.map λx=>(bO T x).drop1):=by
 refine⟨z6,λi hi=> ?_⟩;simp only[aQp,aQq]at hi;simp only[aQg,Array.getElem_toList];rw[aQm,Array.getElem?_map,aQr hi];simp only[aQz,aQs];exact(aO ht _ (aRo.1 h _ z6)).drop1
theorem fT.of{P:Program}{E:aE}{s:Sem Value}{v:PV}{e:pH}(h:∃E' val,s.run P E.w= .ok val E'.w/\E.le E'/\E'.Ok/\E'.H=e.app E.H/\aM E'.view val v):
  fT P E (do pure (.value (<-s))) v e:=by
 obtain⟨E',val,h1,h2⟩:=h;exact⟨E',val, .inl (by simp only[aQ1,h1,aQ2,aQ4]),h2⟩
theorem fT.same{P:Program}{E:aE}(ho:E.Ok){s:Sem Value}{v:PV}(h:∃val,s.run P E.w= .ok val E.w/\aM E.view val v):
  fT P E (do pure (.value (<-s))) v none:=by
 obtain⟨val,h1,h2⟩:=h;exact fT.of ⟨E,val,h1, .refl E,ho,rfl,h2⟩
theorem bind_some{α β:Type}{x:Option α}{f:α->Option β}{b:β}(h:x.bind f=some b):∃a,x=some a/\f a=some b:=by
 cases x with
 |none=>cases h
 |some a=>exact⟨a,rfl,h⟩
theorem lF{P:Program}{t:TypeId}(h:(cN P t).isSome=true):∃e,P.underlying t=some (.slice e):=by
 cases hq:cN P t with
 |none=>rw[hq]at h;cases h
 |some q=>obtain⟨e,i⟩:=q;exact⟨e,(cX hq).1⟩
section
variable{P:Program}{E:aE}{N:Nat}{a:Act}{T:Nat->PV}(ho:E.Ok)(ht:eU E.view N a T)
include ho ht
omit ho ht in
theorem fH{b:Builtin}{xs:List Operand}{ts:List TypeId}{c:Call}{ty:TypeId}(h1:c.callee= .builtin b)(h2:c.args.toList=xs)(h3:c.argTypes.toList=ts){s:Sem Value}(hs:builtin b ts.toArray ty (c.args.map fun| .const _=>true|_=>false) (xs.map a.eval).toArray=(do pure (.value (<-s)):Sem Next)):
  (do let d<-resolve a.eval c ty;invoke d.target d.args:Sem Next).run P E.w=(do pure (.value (<-s)):Sem Next).run P E.w:=by
 obtain⟨ca,ar,at_⟩:=c;simp only at h1 h2 h3 hs;subst h1;subst h2;subst h3;simp only[resolve,aQ1,aQ4,aQ2,invoke];have e1:at_.toList.toArray=at_:=z6
 have e2:(List.map a.eval ar.toList).toArray=ar.map a.eval:=by rw[<-Array.toList_map]
 rw[e1,e2]at hs;exact(congrArg (λq:Sem Next=>q.run P E.w) hs).trans (by simp only[aQ1,aQ4])
omit ho ht in
theorem fT.congr{s s':Sem Next}(h:s.run P E.w=s'.run P E.w){v:PV}{e:pH}(d:fT P E s' v e):fT P E s v e:=by
 obtain⟨E',val,h1,h2⟩:=d;exact⟨E',val,by rw[h];exact h1,h2⟩
theorem EQ{c:Call}{b:Builtin}(hc:c.callee= .builtin b)(hall:∀x∈c.args.toList,aQ N x=true){ty:TypeId}{fresh:Nat}{v:PV}{eff:pH}(hv:dO P fresh T E.H b c.args.toList c.argTypes.toList=some (v,eff))
  (hfr:∀ob,eff=some (fresh,ob)->E.H[fresh]? =some .unborn):fT P E (do let d<-resolve a.eval c ty;invoke d.target d.args) v eff:=by
 generalize hxs:c.args.toList=xs at hv hall;generalize hts:c.argTypes.toList=ts at hv;unfold dO at hv
 split at hv
 ·
  rename_i x t;have hr:=aO ht x (hall _ z6);refine fT.congr (fH hc hxs hts (s:=Builtin.len_ #[t] ty #[a.eval x]) rfl) ?_
  split at hv
  ·rename_i es tl hx;rw[hx]at hr
   split at hv
   ·rename_i hs;obtain⟨e,hu⟩:=lF hs;cases hv;obtain⟨ad,cap,hval⟩:∃ad cap,a.eval x= .slice ad es.length cap:=by
     generalize a.eval x=y at hr;cases hr with
     |nils _ _=>exact⟨none,0,rfl⟩
     |slice ad len cap sz _ _ vs hlen hcap hmax hsz hc hr ht=>subst hlen;exact⟨some ad,cap,rfl⟩
    refine fT.same ho ⟨.int .i64 es.length, ?_, .int _ _⟩;simp only[aQ1,aQ4,aQ2,Builtin.len_,aQ7,aRl,aS hu,hval,goInt]
   ·cases hv
  ·rename_i id off n c hx;rw[hx]at hr
   split at hv
   ·rename_i hs;obtain⟨e,hu⟩:=lF hs;cases hv;obtain⟨ad,cap,hval⟩:∃ad cap,a.eval x= .slice ad n cap:=by
     generalize a.eval x=y at hr;cases hr;exact⟨_,_,rfl⟩
    refine fT.same ho ⟨.int .i64 n, ?_, .int _ _⟩;simp only[aQ1,aQ4,aQ2,Builtin.len_,aQ7,aRl,aS hu,hval,goInt]
   ·cases hv
  ·rename_i s hx;rw[hx]at hr
   split at hv
   ·rename_i hs;unfold MC at hs
    split at hs
    ·rename_i hu;cases hv;obtain⟨s',hval,rfl⟩:∃s',a.eval x= .string s'/\s=s'.data.toList:=by
      generalize a.eval x=y at hr;cases hr;exact⟨_,rfl,rfl⟩
     refine fT.same ho ⟨.int .i64 s'.data.toList.length, ?_, .int _ _⟩;simp only[aQ1,aQ4,aQ2,Builtin.len_,aQ7,aRl,aS hu,hval,goInt,aQq];rfl
    ·cases hs
   ·cases hv
  ·cases hv
 ·
  rename_i x y;refine fT.congr (fH hc hxs hts (s:=Builtin.min_ _ ty #[a.eval x,a.eval y]) rfl) ?_
  split at hv
  ·rename_i m n hx hy;cases hv;have hr:=aO ht x (hall _ z6);have hr':=aO ht y (hall _ z6);rw[hx]at hr;rw[hy]at hr';refine fT.same ho ⟨.int .i64 (min m n), ?_, .int _ _⟩;simp only[aQ4,Builtin.min_,hr.int_inv,hr'.int_inv,List.foldlM_cons,List.foldlM_nil,Builtin.min2,pure_bind];congr 2;rw[Int.min_def];split<;>split<;>omega
  ·cases hv
 ·
  rename_i x y;refine fT.congr (fH hc hxs hts (s:=Builtin.max_ _ ty #[a.eval x,a.eval y]) rfl) ?_
  split at hv
  ·rename_i m n hx hy;cases hv;have hr:=aO ht x (hall _ z6);have hr':=aO ht y (hall _ z6);rw[hx]at hr;rw[hy]at hr';refine fT.same ho ⟨.int .i64 (max m n), ?_, .int _ _⟩;simp only[aQ4,Builtin.max_,hr.int_inv,hr'.int_inv,List.foldlM_cons,List.foldlM_nil,Builtin.max2,pure_bind];congr 2;rw[Int.max_def];split<;>split<;>omega
  ·cases hv
 ·
  rename_i x y t u;obtain⟨ei,hf,hv⟩:=bind_some hv;obtain⟨z,hz,hv⟩:=bind_some hv;refine fT.congr (fH hc hxs hts (s:=Builtin.append_ #[t,u] ty #[a.eval x,a.eval y]) rfl) ?_
  split at hv
  ·rename_i hcc;have hr:=aO ht x (hall _ z6);have hr':=aO ht y (hall _ z6);exact fT.of (JX (ty:=ty) ho hr hr' hf hz hcc.1 hcc.2 hv (λob h _ _=>hfr ob h))
  ·cases hv
 ·cases hv
theorem rV{o:Oper}(hok:cH N o.op=true){mt:Bool}{fresh:Nat}{v:PV}{eff:pH}(hv:eW P mt fresh T E.H o.op=some (v,eff))(hfr:∀ob,eff=some (fresh,ob)->E.H[fresh]? =some .unborn):
  fT P E (execOp a.eval o) v eff:=by
 have hall:∀x∈o.op.operands.toList,aQ N x=true:=λx hx=>aRo.1 hok x hx;unfold execOp;generalize hop:o.op=op at hv hall;unfold eW at hv
 split at hv
 ·
  cases hv;exact fT.val ho rfl (aO ht _ (hall _ (by simp[Op.operands])))
 ·cases hv;exact fT.val ho rfl (aO ht _ (hall _ (by simp[Op.operands])))
 ·
  rename_i c x y
  split at hv
  ·rename_i b hb;cases hv;have hc:=aO ht c (hall _ (by simp[Op.operands]));rw[hb]at hc;have hc':=hc.bool_inv;refine fT.val ho (val:=if b then a.eval x else a.eval y) ?_ ?_
   ·simp only[aQ1,hc',asBool,aQ4,aQ2]
   ·cases b
    ·exact aO ht y (hall _ (by simp[Op.operands]))
    ·exact aO ht x (hall _ (by simp[Op.operands]))
  ·cases hv
 ·
  rename_i e;obtain⟨z,hz,hv⟩:=bind_some hv
  split at hv
  ·cases hv
  ·rename_i hj;cases hv;exact fT.of (KJ ho (hfr _ rfl) hz (by simpa using hj))
 ·
  rename_i e x
  split at hv
  ·cases hv
  ·rename_i hj;cases hv;exact fT.of (TS ho ht (hfr _ rfl) (hall _ (by simp[Op.operands])) (by simpa using hj))
 ·
  rename_i t ps;obtain⟨fl,hf,hv⟩:=bind_some hv;obtain⟨z,hz,hv⟩:=bind_some hv
  split at hv
  ·cases hv
  ·rename_i hj;obtain⟨cs,hb,hv⟩:=bind_some hv;cases hv;exact fT.same ho (NE ht (aRo.2 λx hx=>hall _ (by simp only[Op.operands];exact aRn.2 ⟨x,hx,rfl⟩)) hf hz (by simpa using hj) hb)
 ·
  rename_i t n ps;obtain⟨ei,hf,hv⟩:=bind_some hv;obtain⟨z,hz,hv⟩:=bind_some hv
  split at hv
  ·rename_i hc;obtain⟨es,hb,hv⟩:=bind_some hv;cases hv;exact fT.of (yJ ht ho (aRo.2 λx hx=>hall _ (by simp only[Op.operands];exact aRn.2 ⟨x,hx,rfl⟩)) hf hz hc.1 hc.2.1 hc.2.2 hb)
  ·cases hv
 ·
  rename_i t x;obtain⟨i,hi,hv⟩:=bind_some hv;obtain⟨p,hp,hv⟩:=bind_some hv;cases hv;exact fT.same ho (BO ho ht (hall _ (by simp[Op.operands])) hi hp)
 ·
  rename_i t x y;obtain⟨i,hi,hv⟩:=bind_some hv;obtain⟨e,he,hv⟩:=bind_some hv;cases hv;obtain⟨E',h1,h2,h3,h4⟩:=KS ho ht (hall x (by simp[Op.operands])) (hall y (by simp[Op.operands])) hi he;exact⟨E',undef, .inr ⟨by simp only[aQ1,h1,aQ2,aQ4],rfl⟩,h2,h3,h4, .junk _⟩
 ·
  rename_i x
  split at hv
  ·rename_i id off hx;cases hv;have hr:=aO ht x (hall _ (by simp[Op.operands]));rw[hx]at hr;have hi:=hr.optr_inv;refine fT.val ho (val:=a.eval x) ?_ hr;simp only[hi.1];rfl
  ·rename_i cs hx;cases hv;have hr:=aO ht x (hall _ (by simp[Op.operands]));rw[hx]at hr;obtain⟨ad,vs,e,_,_⟩:=hr.iptr_inv;refine fT.val ho (val:=a.eval x) ?_ hr;simp only[e];rfl
  ·cases hv
 ·
  rename_i op xt x y yt;obtain⟨p,hp,hv⟩:=bind_some hv;cases hv;exact fT.same ho (VM (aO ht _ (hall x (by simp[Op.operands]))) (aO ht _ (hall y (by simp[Op.operands]))) hp)
 ·
  obtain⟨p,hp,hv⟩:=bind_some hv;cases hv;exact fT.same ho (XY (aO ht _ (hall _ (by simp[Op.operands]))) hp)
 ·
  rename_i s d x
  split at hv
  ·rename_i k0 n k hx hk
   split at hv
   ·rename_i hs;cases hv;have hr:=aO ht x (hall _ (by simp[Op.operands]));rw[hx]at hr;refine fT.same ho (EJ hr hk ?_);unfold JK at hs;cases hq:P.underlying s with
    |none=>rw[hq]at hs;cases hs
    |some _=>rfl
   ·cases hv
  ·cases hv
 ·
  rename_i f first caps
  cases hv;have h1:=CE ht first (aRo.2 λx hx=>hall _ (by simp only[Op.operands];simp;left;simpa using hx))
  have h2:=CE ht caps (aRo.2 λx hx=>hall _ (by simp only[Op.operands];simp;right;simpa using hx));exact fT.val ho rfl (.fn _ _ _ _ _ h1.1 h2.1 h1.2 h2.2)
 ·
  rename_i t l c;obtain⟨ei,hf,hv⟩:=bind_some hv;obtain⟨z,hz,hv⟩:=bind_some hv;exact fT.of (AS ho (aO ht _ (hall l (by simp[Op.operands]))) (aO ht _ (hall c (by simp[Op.operands]))) hf hz hv hfr)
 ·
  rename_i t x lo hi mx;obtain⟨p,hp,hv⟩:=bind_some hv;cases hv;refine fT.same ho (LW ht (hall x (by simp[Op.operands])) ?_ ?_ ?_ hp)
  ·cases lo with
   |none=>rfl
   |some y=>exact hall y (by simp[Op.operands])
  ·cases hi with
   |none=>rfl
   |some y=>exact hall y (by simp[Op.operands])
  ·cases mx with
   |none=>rfl
   |some y=>exact hall y (by simp[Op.operands])
 ·
  obtain⟨fl,hf,hv⟩:=bind_some hv;obtain⟨p,hp,hv⟩:=bind_some hv;cases hv;exact fT.same ho (AJ ht (hall _ (by simp[Op.operands])) hf hp)
 ·obtain⟨fl,hf,hv⟩:=bind_some hv;obtain⟨p,hp,hv⟩:=bind_some hv;cases hv;exact fT.same ho (LR ht (hall _ (by simp[Op.operands])) hf hp)
 ·
  rename_i t x i;obtain⟨ei,hf,hv⟩:=bind_some hv;obtain⟨p,hp,hv⟩:=bind_some hv;cases hv;exact fT.same ho (AP ht (hall x (by simp[Op.operands])) (hall i (by simp[Op.operands])) hf hp)
 ·
  rename_i t x i
  split at hv
  ·rename_i s hs
   split at hv
   ·rename_i hst;obtain⟨k,hk,hv⟩:=bind_some hv;obtain⟨b,hb,hv⟩:=bind_some hv;cases hv;exact fT.same ho ⟨_,KE ht (hall x (by simp[Op.operands])) (hall i (by simp[Op.operands])) hs hst hk hb, .int _ _⟩
   ·cases hv
  ·cases hv
 ·
  rename_i t i
  split at hv
  ·rename_i vs hx;obtain⟨p,hp,hv⟩:=bind_some hv;cases hv;exact fT.same ho (FD ht (hall _ (by simp[Op.operands])) hx hp)
  ·cases hv
 ·
  rename_i t x k ok;obtain⟨p,hp,hv⟩:=bind_some hv;cases hv;exact fT.same ho (JF ho (aO ht _ (hall x (by simp[Op.operands]))) (aO ht _ (hall k (by simp[Op.operands]))) hp)
 ·
  rename_i t x k y;obtain⟨e,he,hv⟩:=bind_some hv;cases hv;obtain⟨E',h1,h2,h3,h4⟩:=JR ho (aO ht _ (hall x (by simp[Op.operands]))) (aO ht _ (hall k (by simp[Op.operands]))) (aO ht _ (hall y (by simp[Op.operands]))) he;exact⟨E',undef, .inr ⟨by simp only[aQ1,h1,aQ2,aQ4],rfl⟩,h2,h3,h4, .junk _⟩
 ·
  rename_i t;obtain⟨e,he,hv⟩:=bind_some hv;cases hv;have hun:=hfr _ rfl;have hor:OR E.view (.mapo []) (.map #[] 0):=⟨[],0,rfl,trivial,z6,z6,z6⟩;refine fT.of ⟨E.newObj fresh (.map #[] 0) (.mapo []), .map (some E.w.heap.size), ?_,aE.newObj_le ho hun _ _,ho.newObj hun _ _ hor,rfl, ?_⟩
  ·simp only[aRi,Instr.makeMap,aQ1,run_newObj,aQ2,aQ4];rfl
  ·have:=aM.mapp (V:=(E.newObj fresh (.map #[] 0) (.mapo [])).view) fresh ⟨.obj (.mapo []),by simp only[aE.newObj];exact aQx (lG hun),z6⟩;have hρ:(E.newObj fresh (.map #[] 0) (.mapo [])).view.rho fresh=E.w.heap.size:=by simp[aE.view,aE.newObj]
   rw[hρ]at this;exact this
 ·
  rename_i c
  split at hv
  ·rename_i b hb;exact EQ ho ht hb (λx hx=>hall _ (by simp only[Op.operands,Call.operands,hb];simpa using hx)) hv hfr
  ·cases hv
 ·cases hv
end
abbrev aD:=Nat->PV
abbrev aC:=List AObj
abbrev dG:=Exit->aD->aC->Prop
structure aE.leN(n:Nat)(E E':aE):Prop where
 os:E'.w.os=E.w.os
 tape:E'.w.tape=E.w.tape
 output:E'.w.output=E.w.output
 size:E.w.heap.size<=E'.w.heap.size
 other:∀b,b<E.w.heap.size->¬E.owns b->E'.κ b=E.κ b/\E'.w.heap[b]? =E.w.heap[b]?
 cell:∀a v,E.view.cell a=some v->E'.view.cell a=some v
 bornv:∀id,id<n->E.view.born id->E'.view.born id/\E'.view.rho id=E.view.rho id/\
  ∀t',E'.view.tok id=some t'->∃t,E.view.tok id=some t/\(t'=t\/t.n<t'.n)
 born:∀b,b<E.w.heap.size->E'.owns b->E.owns b
theorem aE.le.leN{E E':aE}(h:E.le E')(n:Nat):E.leN n E':=
 ⟨h.os,h.tape,h.output,h.size,h.other,h.view.cell,λid _ hb=>⟨h.view.born id hb,h.view.rho id hb,λt' ht=>h.view.tok id t' hb ht⟩,h.born⟩
theorem aE.leN.refl(n:Nat)(E:aE):E.leN n E:=(aE.le.refl E).leN n
theorem aE.leN.trans{n:Nat}{A B C:aE}(h:A.leN n B)(k:B.leN n C):A.leN n C:=
 ⟨k.os.trans h.os,k.tape.trans h.tape,k.output.trans h.output,aQk h.size k.size,
  λb hb h1=>by
  obtain⟨e1,e2⟩:=h.other b hb h1;obtain⟨e3,e4⟩:=k.other b (aQl hb h.size) (λx=>h1 (h.born b hb x));exact⟨e3.trans e1,e4.trans e2⟩,
  λa v x=>k.cell a v (h.cell a v x),
  λid hid hb=>by
  obtain⟨b1,b2,b3⟩:=h.bornv id hid hb;obtain⟨c1,c2,c3⟩:=k.bornv id hid b1;refine⟨c1,c2.trans b2,λt' ht=> ?_⟩;obtain⟨t,h1,h2⟩:=c3 t' ht;obtain⟨t0,h3,h4⟩:=b3 t h1;refine⟨t0,h3, ?_⟩;rcases h2 with rfl|h2
  ·exact h4
  ·rcases h4 with rfl|h4
   ·exact .inr h2
   ·exact .inr z8,
  λb hb x=>h.born b hb (k.born b (aQl hb h.size) x)⟩
theorem aE.leN.le{E E':aE}(h:E.leN E.H.length E'):E.le E':=by
 have hl:∀id,E.view.born id->id<E.H.length:=by
  rintro id ⟨o,h1,_⟩;exact lG h1
 exact⟨h.os,h.tape,h.output,h.size,h.other,⟨h.cell,λid hb=>(h.bornv id (hl id hb) hb).1,λid hb=>(h.bornv id (hl id hb) hb).2.1,λid t' hb ht=>(h.bornv id (hl id hb) hb).2.2 t' ht⟩,h.born⟩
def AL(N nb:Nat)(E:aE)(Q:dG):Exit->Act->World->Prop:=λe a' w'=>∃E' T',E'.w=w'/\E.leN nb E'/\E'.Ok/\eU E'.view N a' T'/\Q e T' E'.H
def dY(P:Program)(N nb:Nat)(c:Code)(Q:dG)(T:aD)(H:aC):Prop:=
 ∀(E:aE) (a:Act),E.Ok->E.H=H->eU E.view N a T->c.wp P (AL N nb E Q) a E.w
theorem eY{N nb:Nat}{E E1:aE}(h:E.leN nb E1){Q Q':dG}(hq:∀e T H,Q e T H->Q' e T H){e:Exit}{a:Act}{w:World}(hl:AL N nb E1 Q e a w):AL N nb E Q' e a w:=by
 obtain⟨E',T',h1,h2,h3,h4,h5⟩:=hl;exact⟨E',T',h1,h.trans h2,h3,h4,hq _ _ _ h5⟩
section rules
variable{P:Program}{N nb:Nat}{Q:dG}{T:aD}{H:aC}
theorem dY.mono{c:Code}{Q':dG}(h:dY P N nb c Q T H)(hq:∀e T H,Q e T H->Q' e T H):dY P N nb c Q' T H:=
 λE a ho hH ht=>wp_mono (h E a ho hH ht) λe a w hl=>eY (.refl nb E) hq hl
theorem wK(h:Q .normal T H):dY P N nb .skip Q T H:=λE a ho hH ht=>wp_skip ⟨E,T,rfl, .refl nb E,ho,ht,hH▸h⟩
theorem bG{id:Nat}(h:Q (.exit id) T H):dY P N nb (.exit id) Q T H:=λE a ho hH ht=>wp_exit ⟨E,T,rfl, .refl nb E,ho,ht,hH▸h⟩
theorem wT(h:Q .ret T H):dY P N nb .ret Q T H:=λE a ho hH ht=>wp_ret ⟨E,T,rfl, .refl nb E,ho,ht,hH▸h⟩
def aY(next:aD->aC->Prop)(Q:dG):dG
 | .normal,T,H=>next T H
 |e,T,H=>Q e T H
theorem wS{x y:Code}(h:dY P N nb x (aY (dY P N nb y Q) Q) T H):dY P N nb (.seq x y) Q T H:=by
 intro E a ho hH ht;refine wp_seq (wp_mono (h E a ho hH ht) ?_);intro e a' w' hl;obtain⟨E',T',rfl,h2,h3,h4,h5⟩:=hl;cases e with
 |normal=>
  exact wp_mono (h5 E' a' h3 rfl h4) λe a w hl=>eY h2 (λ_ _ _ q=>q) hl
 |_=>exact⟨E',T',rfl,h2,h3,h4,h5⟩
theorem wC{c:Operand}{x y:Code}{b:Bool}(hc:aQ N c=true)(hb:bO T c= .bool b)(h1:b=true->dY P N nb x Q T H)(h2:b=false->dY P N nb y Q T H):dY P N nb (.cond c x y) Q T H:=by
 intro E a ho hH ht;have hr:=aO ht c hc;rw[hb]at hr;exact wp_cond_split hr.bool_inv (λe=>h1 e E a ho hH ht) (λe=>h2 e E a ho hH ht)
theorem bP{c:Operand}{x y:Code}(hc:aQ N c=true)(hb:bO T c= .bool true)(h1:dY P N nb x Q T H):dY P N nb (.cond c x y) Q T H:=
 wC hc hb (λ_=>h1) (λh=>by cases h)
theorem wF{c:Operand}{x y:Code}(hc:aQ N c=true)(hb:bO T c= .bool false)(h1:dY P N nb y Q T H):dY P N nb (.cond c x y) Q T H:=
 wC hc hb (λh=>by cases h) (λ_=>h1)
def aT(id:Nat)(Q:dG):dG
 | .exit id',T,H=>if id'=id then Q .normal T H else Q (.exit id') T H
 |e,T,H=>Q e T H
theorem cV{id:Nat}{c:Code}(h:dY P N nb c (aT id Q) T H):dY P N nb (.block id c) Q T H:=by
 intro E a ho hH ht;refine wp_block (wp_mono (h E a ho hH ht) ?_);intro e a' w' hl;obtain⟨E',T',rfl,h2,h3,h4,h5⟩:=hl;cases e with
 |exit id'=>
  simp only[aT]at h5;simp only[Exit.inBlock]
  split at h5
  ·rename_i e;rw[if_pos e];exact⟨E',T',rfl,h2,h3,h4,h5⟩
  ·rename_i e;rw[if_neg e];exact⟨E',T',rfl,h2,h3,h4,h5⟩
 |_=>exact⟨E',T',rfl,h2,h3,h4,h5⟩
theorem rT{p:Nat->Prop}(h:∃n,p n):∃n,p n/\∀m,p m->n<=m:=by
 obtain⟨n,hn⟩:=h
 induction n using Nat.strongRecOn with
 |_ n ih=>
  by_cases q:∃m,m<n/\p m
  ·obtain⟨m,hm,hp⟩:=q;exact ih m hm hp
  ·exact⟨n,hn,λm hm=>Nat.le_of_not_lt λhlt=>q ⟨m,hlt,hm⟩⟩
open Classical in
noncomputable def AG(p:Nat->Prop):Nat:=if h:∃n,p n then Classical.choose (rT h)else 0
theorem sH{p:Nat->Prop}(h:∃n,p n):p (AG p):=by unfold AG;rw[dif_pos h];exact(Classical.choose_spec (rT h)).1
theorem xJ{p:Nat->Prop}{n:Nat}(h:p n):AG p<=n:=by unfold AG;rw[dif_pos ⟨n,h⟩];exact(Classical.choose_spec (rT ⟨n,h⟩)).2 n h
inductive bW(n:Nat):PV->Prop
 |bool (b):bW n (.bool b)
 |int (k i):bW n (.int k i)
 |str (s):bW n (.str s)
 |nilp:bW n .nilp
 |optr (id off) (h:id<n):bW n (.optr id off)
 |iptr (cs) (h:∀c∈cs,bW n c):bW n (.iptr cs)
 |slice (es tl) (h:∀e∈es,∀c∈e.cells,bW n c) (ht:∀id,tl= .tok id->id<n):bW n (.slice es tl)
 |msl (id off k c) (h:id<n):bW n (.msl id off k c)
 |fn (f pf pc) (hf:∀c∈pf,bW n c) (hc:∀c∈pc,bW n c):bW n (.fn f pf pc)
 |nilfn:bW n .nilfn
 |agg (cs) (h:∀c∈cs,bW n c):bW n (.agg cs)
 |tup (cs) (h:∀c∈cs,bW n c):bW n (.tup cs)
 |mapp (id) (h:id<n):bW n (.mapp id)
 |nilmap:bW n .nilmap
 |ifc (o):bW n (.ifc o)
 |junk:bW n .junk
theorem aM.bel{V:cQ}{v:Value}{p:PV}(h:aM V v p){n:Nat}(hn:∀id,V.born id->id<n):bW n p:=by
 induction h with
 |bool b=>exact .bool b
 |int k i=>exact .int k i
 |str s=>exact .str _
 |nilp=>exact .nilp
 |optr id off hb=>exact .optr _ _ (hn _ hb)
 |iptr a cs vs hc hr ih=>exact .iptr _ λc hc=>by obtain⟨i,hi,rfl⟩:=List.getElem_of_mem hc;exact ih i hi
 |nils tl ht=>exact .slice _ _ z6 λid e=>by subst e;exact hn _ ht.1
 |slice a len cap sz es tl vs hlen hcap hmax hsz hc hr ht ih=>
  refine .slice _ _ (λe he c hc=> ?_) λid e=>by subst e;exact hn _ ht.1
  obtain⟨i,hi,rfl⟩:=List.getElem_of_mem he;obtain⟨j,hj,rfl⟩:=List.getElem_of_mem hc;exact ih i j hi hj
 |msl id off k c hb hm=>exact .msl _ _ _ _ (hn _ hb)
 |fn f first caps pf pc hf hc _ _ ih1 ih2=>
  exact .fn _ _ _ (λc hc=>by obtain⟨i,hi,rfl⟩:=List.getElem_of_mem hc;exact ih1 i hi) (λc hc=>by obtain⟨i,hi,rfl⟩:=List.getElem_of_mem hc;exact ih2 i hi)
 |nilfn=>exact .nilfn
 |agg arr cs hl _ ih=>exact .agg _ λc hc=>by obtain⟨i,hi,rfl⟩:=List.getElem_of_mem hc;exact ih i hi
 |tup arr cs hl _ ih=>exact .tup _ λc hc=>by obtain⟨i,hi,rfl⟩:=List.getElem_of_mem hc;exact ih i hi
 |mapp id hb=>exact .mapp _ (hn _ hb)
 |nilmap=>exact .nilmap
 |nili=>exact .ifc _
 |ifc t v=>exact .ifc _
 |junk v=>exact .junk
theorem aM.cut{V V':cQ}{n:Nat}(hc:∀a v,V.cell a=some v->V'.cell a=some v)(hb:∀id,id<n->V.born id->V'.born id/\V'.rho id=V.rho id/\∀t,V'.tok id=some t->V.tok id=some t)
  {v:Value} {p:PV} (h:aM V v p) (hp:bW n p):aM V' v p:=by
 have htl:∀ {tl a len cap},(∀id,tl= .tok id->id<n)->mK V tl a len cap->mK V' tl a len cap:=by
  intro tl a len cap h1 h2;cases tl with
  |none=>trivial
  |full=>exact h2
  |tok id=>
   obtain⟨h3,h4⟩:=h2;obtain⟨b1,b2,b3⟩:=hb id (h1 id rfl) h3;exact⟨b1,λt ht=>h4 t (b3 t ht)⟩
 induction h with
 |bool b=>exact .bool b
 |int k i=>exact .int k i
 |str s=>exact .str _
 |nilp=>exact .nilp
 |optr id off hbn=>
  cases hp with
  |optr _ _ hlt=>obtain⟨b1,b2,_⟩:=hb id hlt hbn;rw[<-b2];exact .optr _ _ b1
 |iptr a cs vs hcl hr ih=>
  cases hp with
  |iptr _ hq=>exact .iptr _ _ vs (λj hj=>hc _ _ (hcl j hj)) λj hj=>ih j hj (hq _ (aRh hj))
 |nils tl ht=>
  cases hp with
  |slice _ _ hq hq2=>exact .nils _ (htl hq2 ht)
 |slice a len cap sz es tl vs hlen hcap hmax hsz hcl hr ht ih=>
  cases hp with
  |slice _ _ hq hq2=>exact .slice _ _ _ _ _ _ vs hlen hcap hmax hsz (λi j hi hj=>hc _ _ (hcl i j hi hj)) (λi j hi hj=>ih i j hi hj (hq _ (aRh hi) _ (aRh hj))) (htl hq2 ht)
 |msl id off k c hbn hm=>
  cases hp with
  |msl _ _ _ _ hlt=>obtain⟨b1,b2,_⟩:=hb id hlt hbn;rw[<-b2];exact .msl _ _ _ _ b1 hm
 |fn f first caps pf pc hf hcp _ _ ih1 ih2=>
  cases hp with
  |fn _ _ _ q1 q2=>exact .fn _ _ _ _ _ hf hcp (λi h=>ih1 i h (q1 _ (aRh h))) (λi h=>ih2 i h (q2 _ (aRh h)))
 |nilfn=>exact .nilfn
 |agg arr cs hl _ ih=>
  cases hp with
  |agg _ q=>exact .agg _ _ hl λi h=>ih i h (q _ (aRh h))
 |tup arr cs hl _ ih=>
  cases hp with
  |tup _ q=>exact .tup _ _ hl λi h=>ih i h (q _ (aRh h))
 |mapp id hbn=>
  cases hp with
  |mapp _ hlt=>obtain⟨b1,b2,_⟩:=hb id hlt hbn;rw[<-b2];exact .mapp _ b1
 |nilmap=>exact .nilmap
 |nili=>exact .nili
 |ifc t v=>exact .ifc t v
 |junk v=>exact .junk v
theorem RF{H:aC}{id:Nat}(h:pC H id):id<H.length:=by
 obtain⟨o,h1,_⟩:=h;exact lG h1
theorem bW.mono{n m:Nat}(hnm:n<=m){p:PV}(h:bW n p):bW m p:=by
 induction h with
 |bool b=>exact .bool b
 |int k i=>exact .int k i
 |str s=>exact .str _
 |nilp=>exact .nilp
 |optr id off h=>exact .optr _ _ z8
 |iptr cs _ ih=>exact .iptr _ ih
 |slice es tl _ ht ih=>exact .slice _ _ ih λid e=>by have:=ht id e;omega
 |msl id off k c h=>exact .msl _ _ _ _ z8
 |fn f pf pc _ _ ih1 ih2=>exact .fn _ _ _ ih1 ih2
 |nilfn=>exact .nilfn
 |agg cs _ ih=>exact .agg _ ih
 |tup cs _ ih=>exact .tup _ ih
 |mapp id h=>exact .mapp _ z8
 |nilmap=>exact .nilmap
 |ifc o=>exact .ifc o
 |junk=>exact .junk
def EW(n:Nat):AObj->Prop
 | .row cs=>∀c∈cs,bW n c
 | .obj (.mapo es)=>∀e∈es,bW n e.2
 | .obj (.miter im _ _)=>im<n
 |_=>True
theorem EW.mono{n m:Nat}{o:AObj}(h:EW m o)(hm:m<=n):EW n o:=by
 cases o with
 |row cs=>exact λc hc=>(h c hc).mono hm
 |obj k=>cases k with
  |iter s p=>trivial
  |mapo es=>exact λe he=>(h e he).mono hm
  |miter im k seen=>exact aQl h hm
 |_=>trivial
theorem lK.bel{V:cQ}{n:Nat}(hn:∀id,V.born id->id<n):∀ {ms:List MapEntry} {es:List (Int×PV)},lK V ms es->∀e∈es,bW n e.2
 | [],[],_,e,he=>by cases he
 |m::ms,x::es,h,e,he=>by
  rcases aRs.1 he with rfl|he
  ·exact h.2.1.bel hn
  ·exact lK.bel hn h.2.2 e he
 | [],_::_,h,_,_=>h.elim
 |_::_,[],h,_,_=>h.elim
theorem OR.bel{V:cQ}{k:rI}{o:Obj}(h:OR V k o){n:Nat}(hn:∀id,V.born id->id<n):EW n (.obj k):=by
 cases k with
 |iter s pos=>trivial
 |mapo es=>
  obtain⟨ms,c,rfl,h1,h2⟩:=h;exact lK.bel hn h1
 |miter im k seen=>exact hn im h.1
theorem OR.cut{V V':cQ}{n:Nat}{k:rI}{o:Obj}(hv:∀v p,aM V v p->bW n p->aM V' v p)(h:OR V k o)(hb:EW n (.obj k)):OR V' k o:=by
 cases k with
 |iter s pos=>exact h
 |mapo es=>
  obtain⟨ms,c,rfl,h1,h2⟩:=h;exact⟨ms,c,rfl,h1.imp λv e he hr=>hv _ _ hr (hb e he),h2⟩
 |miter im k seen=>
  have h1:=hv _ _ (aM.mapp im h.1) (.mapp _ hb);generalize hq:Value.map (some (V.rho im))=q at h1;generalize hp:PV.mapp im=p at h1;cases h1<;>cases hp;rename_i hbn;injection hq with hq;injection hq with hq;exact⟨hbn,by rw[h.2,hq]⟩
def kB(n:Nat)(H:aC):Prop:=∀o∈H,EW n o
theorem aE.Ok.hbel{E:aE}(h:E.Ok):kB E.H.length E.H:=by
 intro o ho;obtain⟨id,hid,rfl⟩:=List.getElem_of_mem ho;cases hq:E.H[id]with
 |row cs=>
  intro c hc;obtain⟨arr,elem,h1,h2,h3,h4⟩:=h.rows id cs (by rw[aRa hid,hq]);obtain⟨i,hl,rfl⟩:=List.getElem_of_mem hc;exact(h3 i hl).bel λid hb=>RF hb
 |obj k=>
  obtain⟨⟨o,h1,h2⟩,_⟩:=h.objs.at_ id k (by rw[aRa hid,hq]);exact h2.bel λid hb=>RF hb
 |_=>trivial
def aE.cutH(E:aE)(H1:aC):aE:= {E with H:=H1}
section cutH
variable{E:aE}(ho:E.Ok){H1 L:aC}(hE:E.H=H1++L)
include hE
omit hE in
theorem lE{H1 L H:aC}(hE:H=H1++L){id:Nat}(hid:id<H1.length):H[id]? =H1[id]? :=by rw[hE,aQt hid]
theorem aE.cutH_rel{v:Value}{p:PV}(h:aM E.view v p)(hp:bW H1.length p):aM (E.cutH H1).view v p:=by
 refine aM.cut (V:=E.view) (V':=(E.cutH H1).view) (n:=H1.length) (λa v h=>h) (λid hid hb=>⟨?_,rfl,λt ht=> ?_⟩) h hp
 ·obtain⟨o,h1,h2⟩:=hb;exact⟨o,by show H1[id]? =some o;rw[<-lE hE hid];exact h1,h2⟩
 ·simp only[aE.view,aE.cutH,<-lE hE hid]at ht⊢;exact ht
theorem aE.cutH_leN{n:Nat}(hn:n<=H1.length):E.leN n (E.cutH H1):=by
 refine⟨rfl,rfl,rfl,aQj _,λb hb _=>⟨rfl,rfl⟩,λa v h=>h,λid hid hb=>⟨?_,rfl,λt' ht=>⟨t', ?_, .inl rfl⟩⟩,λb hb=>Or.imp ?_ (Or.imp ?_ (aE.ownsObj_of (E:=E) (E':=E.cutH H1) λid k h1=>⟨by rw[lE hE (lG h1)];exact h1,rfl⟩))⟩
 ·obtain⟨o,h1,h2⟩:=hb;exact⟨o,by show H1[id]? =some o;rw[<-lE hE z8];exact h1,h2⟩
 ·have hid':id<H1.length:=z8
  simp only[aE.view,aE.cutH,<-lE hE hid']at ht⊢;exact ht
 ·rintro⟨id,cs,h1,h2⟩;exact⟨id,cs,by rw[lE hE (lG h1)];exact h1,h2⟩
 ·rintro⟨id,m,sz,h1,h2⟩;exact⟨id,m,sz,by rw[lE hE (lG h1)];exact h1,h2⟩
include ho in
theorem aE.Ok.cutH(hb:kB H1.length H1):(E.cutH H1).Ok:=by
 have hg:∀ {id:Nat} {o:AObj},H1[id]? =some o->E.H[id]? =some o:=λh=>by rw[lE hE (lG h)];exact h
 refine⟨?_, ?_, ?_, ?_,ho.globs_of (λa v h=>h) λid b vs hi=>hg hi,⟨λid k hi=> ?_,λid id' k k' h1 h2 e=>ho.objs.inj id id' k k' (hg h1) (hg h2) e⟩⟩
 rotate_left 4
 ·obtain⟨⟨o,a1,a2⟩,a3⟩:=ho.objs.at_ id k (hg hi);exact⟨⟨o,a1,a2.cut (λv p hv hp=>aE.cutH_rel hE hv hp) (hb _ (List.mem_of_getElem? hi))⟩,a3⟩
 ·intro id cs hi;obtain⟨arr,elem,h1,h2,h3,h4⟩:=ho.rows id cs (hg hi);have hm:AObj.row cs∈H1:=List.mem_of_getElem? hi;exact⟨arr,elem,h1,h2,λi hl=>aE.cutH_rel hE (h3 i hl) (hb _ hm _ (aRh hl)),h4⟩
 ·intro id n sz b hi hb;exact ho.bufs id n sz b (hg hi) hb
 ·intro id id' cs cs' h1 h2 e;exact ho.injr id id' cs cs' (hg h1) (hg h2) e
 ·intro id id' n sz n' sz' b h1 h2 e e';exact ho.injb id id' n sz n' sz' b (hg h1) (hg h2) e e'
end cutH
def keep(live:List Nat)(T:aD):aD:=λi=>if i∈live then T i else .junk
theorem BX{E:aE}{a:Act}(ht:eU E.view N a T){H1 L:aC}(hE:E.H=H1++L){live:List Nat}(hl:∀i∈live,bW H1.length (T i)):eU (E.cutH H1).view N a (keep live T):=by
 refine⟨ht.size,ht.defers,λi hi=> ?_⟩;unfold keep
 split
 ·rename_i hm;exact aE.cutH_rel hE (ht.rel i hi) (hl i hm)
 ·exact .junk _
theorem aJb{c:Code}(live:List Nat){H1 L:aC}(hH:H=H1++L)(hn:nb<=H1.length)(hb:kB H1.length H1)(hl:∀i∈live,bW H1.length (T i))(h:dY P N nb c Q (keep live T) H1):dY P N nb c Q T H:=by
 intro E a ho hE ht;have hE':E.H=H1++L:=hE.trans hH;exact wp_mono (h (E.cutH H1) a (ho.cutH hE' hb) rfl (BX ht hE' hl)) λe a w hl=>eY (aE.cutH_leN hE' hn) (λ_ _ _ q=>q) hl
theorem aAk{c:Code}(live:List Nat)(I:Nat->aD->aC->Prop)(n0:Nat)(h0:I n0 T H)
  (round:∀n T H,I n T H->dY P N nb c (aY (λT' H'=>∃n' H1 L,n'<n/\H'=H1++L/\nb<=H1.length/\kB H1.length H1/\(∀i∈live,bW H1.length (T' i))/\I n' (keep live T') H1) Q) T H):dY P N nb (.loop c) Q T H:=by
 intro E a ho hH ht
 let J:Nat->Act->World->Prop:=λn a w=>∃E' T',E'.w=w/\E.leN nb E'/\E'.Ok/\eU E'.view N a T'/\I n T' E'.H
 refine wp_loop (λa w=>∃n,J n a w) (λa w=>AG (λn=>J n a w)) ⟨n0,E,T,rfl, .refl nb E,ho,ht,hH▸h0⟩ ?_;intro a1 w1 hJ;obtain⟨E1,T1,hw1,hle,ho1,ht1,hI⟩:=sH hJ;have hr:=round _ T1 E1.H hI E1 a1 ho1 rfl ht1;rw[hw1]at hr;refine wp_mono hr ?_;intro e a' w' hl;obtain⟨E',T',rfl,h2,h3,h4,h5⟩:=hl;cases e with
 |normal=>
  obtain⟨n',H1,L,hn,hE,hnb,hb,hlv,hI'⟩:=h5;have hJ':J n' a' E'.w:=⟨E'.cutH H1,keep live T',rfl,(hle.trans h2).trans (aE.cutH_leN hE hnb),h3.cutH hE hb,BX h4 hE hlv,hI'⟩;exact⟨⟨n',hJ'⟩,Nat.lt_of_le_of_lt (xJ hJ') hn⟩
 |_=>exact⟨E',T',rfl,hle.trans h2,h3,h4,h5⟩
def aL(P:Program)(f:FuncId)(args:List PV)(H:aC)(R:PV->aC->Prop):Prop:=
 ∀(E:aE) (vargs:Array Value),E.Ok->E.H=H->RL E.view vargs args->Calls P f vargs E.w λe w'=>∃(E':aE) (v:Value) (r:PV),e= .returned v/\E'.w=w'/\E.le E'/\E'.Ok/\aM E'.view v r/\R r E'.H
theorem aL.mono{f:FuncId}{args:List PV}{R R':PV->aC->Prop}(h:aL P f args H R)(hr:∀r H,R r H->R' r H):aL P f args H R':=
 λE vargs ho hH hl=>(h E vargs ho hH hl).mono λe w' ⟨E',v,r,h1,h2,h3,h4,h5,h6⟩=>⟨E',v,r,h1,h2,h3,h4,h5,hr _ _ h6⟩
def wP(H:aC)(e:pH):aC:=
 match e with
 |some (id,o)=>if id=H.length then H++ [o]else H.set id o
 |none=>H
theorem xI{H:aC}{id:Nat}{o:AObj}(h:H[id]? =some o):(H++ [AObj.unborn])[id]? =some o:=by
 rw[aQt (lG h)];exact h
theorem VN{i:TI}{x v:PV}(h:iB i H x=some v):iB i (H++ [.unborn]) x=some v:=by
 unfold iB at h⊢
 split at h
 ·rename_i id off
  split at h
  ·rename_i cs hcs;simp only[xI hcs];exact h
  ·cases h
 ·exact h
 ·cases h
theorem IE{fresh:Nat}{b:Builtin}{xs:List Operand}{ts:List TypeId}{v:PV}{e:pH}(h:dO P fresh T H b xs ts=some (v,e)):dO P fresh T (H++ [.unborn]) b xs ts=some (v,e):=by
 unfold dO at h⊢
 split at h
 ·exact h
 ·exact h
 ·exact h
 ·rename_i x y t u;obtain⟨ei,hf,h⟩:=bind_some h;obtain⟨z,hz,h⟩:=bind_some h;simp only[hf,hz,aQw]
  split at h
  ·rename_i hc;rw[if_pos hc];unfold eH at h⊢
   split at h
   ·split at h
    ·rename_i hx;rw[if_pos hx];exact h
    ·rename_i hx;rw[if_neg hx]
     split at h
     ·rename_i hc2;rw[if_pos hc2]
      split at h
      ·exact h
      ·rename_i id
       split at h
       ·rename_i n sz hid;simp only[xI hid];exact h
       ·cases h
      ·cases h
     ·cases h
   ·cases h
  ·cases h
 ·cases h
theorem MB{t:TypeId}{x k v:PV}{ok:Bool}(h:kF P H t x k ok=some v):kF P (H++ [.unborn]) t x k ok=some v:=by
 unfold kF at h⊢
 split at h
 ·split at h
  ·rename_i hid;simp only[xI hid];exact h
  ·cases h
 ·cases h
theorem LP{t:TypeId}{x k v:PV}{p:Nat×AObj}(h:lO P H t x k v=some p):lO P (H++ [.unborn]) t x k v=some p:=by
 unfold lO at h⊢
 split at h
 ·split at h
  ·rename_i hid;simp only[xI hid];exact h
  ·cases h
 ·cases h
theorem aC4{mt:Bool}{fresh:Nat}{o:Op}{v:PV}{e:pH}(h:eW P mt fresh T H o=some (v,e)):eW P mt fresh T (H++ [.unborn]) o=some (v,e):=by
 unfold eW at h⊢
 split at h<;>try exact h
 ·obtain⟨i,hi,h⟩:=bind_some h;obtain⟨p,hp,h⟩:=bind_some h;simp only[hi,aQw,VN hp];exact h
 ·obtain⟨i,hi,h⟩:=bind_some h;obtain⟨p,hp,h⟩:=bind_some h;simp only[hi,aQw];have:∀ {x y:PV} {q},mP i H x y=some q->mP i (H++ [.unborn]) x y=some q:=by
   intro x y q hq;unfold mP at hq⊢
   split at hq
   ·split at hq
    ·rename_i cs hcs;simp only[xI hcs];exact hq
    ·cases hq
   ·cases hq
  simp only[this hp,aQw];exact h
 ·obtain⟨p,hp,h⟩:=bind_some h;simp only[MB hp,aQw];exact h
 ·obtain⟨p,hp,h⟩:=bind_some h;simp only[LP hp,aQw];exact h
 ·split at h
  ·exact IE h
  ·cases h
def bB(P:Program)(N nb:Nat)(ops:Array Oper)(Q:dG)(l:List Oper)(T:aD)(H:aC):Prop:=
 ∀(E:aE) (a:Act),E.Ok->E.H=H->eU E.view N a T->wpList P ops (AL N nb E Q) l a E.w
def aV(ops:List Oper)(T:aD)(N:Nat)(o:Oper):Option Bool:=
 match o.guard with
 |none=>some true
 |some (j,want)=>match(ops[j]?).bind (·.dst)with
  |some d=>if d<N then match T d with
   | .bool b=>some (b==want)
   |_=>none
   else none
  |none=>none
theorem cJ{ops:Array Oper}{o:Oper}{b:Bool}{V:cQ}{a:Act}(ht:eU V N a T)(h:aV ops.toList T N o=some b):Region.wanted o (yielded ops a.tmps)=b:=by
 unfold aV at h;unfold Region.wanted
 split at h
 ·cases h;rename_i hg;simp only[hg]
 ·rename_i j want hg;simp only[hg]
  split at h
  ·rename_i d hd
   split at h
   ·rename_i hdN
    split at h
    ·rename_i q hq;cases h;have hr:=ht.rel d hdN;rw[hq]at hr;have hv:=hr.bool_inv;have hy:yielded ops a.tmps j=some q:=by
      unfold yielded;rw[aRc]at hd;rw[hd];simp only[aQw];rw[aQm,aQr (by rw[ht.size];exact hdN)]at hv;rw[aQr (by rw[ht.size];exact hdN)];simp only[aQs]at hv;rw[hv]
     rw[hy];cases q<;>cases want<;>rfl
    ·cases h
   ·cases h
  ·cases h
theorem jF{P:Program}{ops:Array Oper}{Q:Exit->Act->World->Prop}{a:Act}{w:World}{rest:List Oper}{o:Oper}(hw:Region.wanted o (yielded ops a.tmps)=true)
  (h:o.wp P a w (wpList P ops Q rest) Q):wpList P ops Q (o::rest) a w:=by
 unfold wpList;rw[if_pos hw];exact .inl h
theorem oN{ops:Array Oper}(h:Q .normal T H):bB P N nb ops Q [] T H:=λE a ho hH ht=>⟨E,T,rfl, .refl nb E,ho,ht,hH▸h⟩
theorem fG{P:Program}{ops:Array Oper}{Q Q':Exit->Act->World->Prop}(hq:∀e a w,Q e a w->Q' e a w):∀(l:List Oper) (a:Act) (w:World),wpList P ops Q l a w->wpList P ops Q' l a w
 | [],a,w,h=>hq _ _ _ h
 |o::l,a,w,h=>by
  have hout:LetsOut Q->LetsOut Q':=λ⟨a,w,x⟩=>⟨a,w,hq _ _ _ x⟩;unfold wpList at h⊢
  split at h
  ·rename_i hw;rw[if_pos hw];rcases h with h| ⟨h1,h2⟩
   ·left;unfold Oper.wp at h⊢;generalize (execOp a.eval o).run P w=r at h⊢;unfold Oper.upon at h⊢
    split at h
    ·exact fG hq l _ _ h
    ·exact fG hq l _ _ h
    ·exact fG hq l _ _ h
    ·refine h.mono λe w'' he=> ?_;cases e with
     |returned v=>exact fG hq l _ _ he
     |panicked ch=>exact hq _ _ _ he
     |outgrown=>exact hout he
    ·exact h.mono λv w'' he=>fG hq l _ _ he
    ·exact hq _ _ _ h
    ·exact h.elim
   ·exact .inr ⟨h1,hout h2⟩
  ·rename_i hw;rw[if_neg hw];exact fG hq l _ _ h
theorem UW{ops:Array Oper}{o:Oper}{l:List Oper}(hw:aV ops.toList T N o=some false)(h:bB P N nb ops Q l (bT T o.dst .junk) H):bB P N nb ops Q (o::l) T H:=by
 intro E a ho hH ht;unfold wpList;rw[if_neg (by rw[cJ ht hw];simp)];exact h E _ ho hH (ht.put o.dst (.junk _))
theorem fA{ops:Array Oper}{o:Oper}{l:List Oper}{v:PV}{H':aC}(hw:aV ops.toList T N o=some true)
  (hd:∀(E:aE) (a:Act),E.Ok->E.H=H->eU E.view N a T->∃(E':aE) (val:Value),((execOp a.eval o).run P E.w= .ok (.value val) E'.w\/((execOp a.eval o).run P E.w= .ok .skip E'.w/\val=undef))/\E.le E'/\E'.Ok/\E'.H=H'/\aM E'.view val v)
  (h:bB P N nb ops Q l (bT T o.dst v) H'):bB P N nb ops Q (o::l) T H:=by
 intro E a ho hH ht;obtain⟨E',val,h1,h2,h3,h4,h5⟩:=hd E a ho hH ht;refine jF (cJ ht hw) ?_;have hn:=fG (λe a w hl=>eY (h2.leN nb) (λ_ _ _ q=>q) hl) l _ _ (h E' (a.put o.dst val) h3 h4 ((ht.mono h2.view).put o.dst h5));unfold Oper.wp;rcases h1 with h1| ⟨h1,rfl⟩
 ·rw[h1];exact hn
 ·rw[h1];exact hn
theorem SC{ops:Array Oper}{o:Oper}{l:List Oper}(mt:Bool){v:PV}{e:pH}{H':aC}(hw:aV ops.toList T N o=some true)(hok:cH N o.op=true)(hv:eW P mt H.length T H o.op=some (v,e))
  (hH':wP H e=H') (h:bB P N nb ops Q l (bT T o.dst v) H'):bB P N nb ops Q (o::l) T H:=by
 refine fA hw (λE a ho hH ht=> ?_) h;subst hH
 by_cases hn:∃ob,e=some (E.H.length,ob)
 ·obtain⟨ob,rfl⟩:=hn;have hx:=E.ext_le;obtain⟨E',val,h1,h2,h3,h4,h5⟩:=rV (E:=E.ext) ho.ext (ht.mono hx.view) hok (mt:=mt) (fresh:=E.H.length) (v:=v) (eff:=some (E.H.length,ob)) (aC4 hv)
   (λ_ _=>by simp[aE.ext])
  refine⟨E',val,h1,hx.trans h2,h3, ?_,h5⟩;rw[h4,<-hH'];simp only[pH.app,wP,if_true,aE.ext];rw[aRu _ _ (aQj _)];simp
 ·obtain⟨E',val,h1,h2,h3,h4,h5⟩:=rV ho ht hok hv (λob he=>(hn ⟨ob,he⟩).elim);refine⟨E',val,h1,h2,h3, ?_,h5⟩;rw[h4,<-hH'];cases e with
  |none=>rfl
  |some q=>
   obtain⟨id,ob⟩:=q;simp only[pH.app,wP];rw[if_neg (λe=>hn ⟨ob,by rw[e]⟩)]
def aR(P:Program)(f:FuncId):Bool:=
 match P.funcs[f]? with
 |some fn=>fn.body.isSome&& !(fn.name== "runtime.NumGoroutine")
 |none=>false
theorem rY{P:Program}{w:World}{f:FuncId}(h:aR P f=true)(args:Array Value):(callFunc f args).run P w= .ok (.enter f args) w:=by
 unfold aR at h
 split at h
 ·rename_i fn hf;simp only[aQd,aQe]at h;have hb:fn.body.isNone=false:=by cases hq:fn.body<;>simp_all
  simp only[callFunc,aQ1,CD,aQ2,hf,h.2,aQ9,if_false,hb,aQ4]
 ·cases h
theorem mH{V:cQ}{a b:Array Value}{x y:List PV}(h1:RL V a x)(h2:RL V b y):RL V (a++b) (x++y):=oG h1 h2
theorem NK{V:cQ}{a:Array Value}{x:List PV}(h:RL V a x):RL V a (x.map PV.drop1):=
 ⟨by simpa using h.1,nK h.2⟩
theorem UR{ops:Array Oper}{o:Oper}{l:List Oper}{fo:Operand}{xs:Array Operand}{ts:Array TypeId}(hop:o.op= .call ⟨.value fo,xs,ts⟩)(hw:aV ops.toList T N o=some true)(hok:cH N o.op=true)
  {f:FuncId} {pf pc:List PV} (hf:bO T fo= .fn (.func f) pf pc) (hgo:aR P f=true) {args:List PV} (hargs:pf++(xs.toList.map λx=>(bO T x).drop1)++pc=args) {R:PV->aC->Prop} (hc:aL P f args H R)
  (h:∀r H',R r H'->bB P N nb ops Q l (bT T o.dst r) H'):bB P N nb ops Q (o::l) T H:=by
 intro E a ho hH ht;refine jF (cJ ht hw) ?_;have hall:∀x∈o.op.operands.toList,aQ N x=true:=λx hx=>aRo.1 hok x hx;rw[hop]at hall;simp only[Op.operands,Call.operands]at hall;have hr:=aO ht fo (hall fo z6);rw[hf]at hr;obtain⟨first,caps,hval,h1,h2⟩:∃first caps,a.eval fo= .func (.func f) first caps/\RL E.view first pf/\RL E.view caps pc:=by
  generalize a.eval fo=y at hr;cases hr with
  |fn _ first caps _ _ hf hc hrf hrc=>exact⟨first,caps,rfl,⟨hf,hrf⟩,⟨hc,hrc⟩⟩
 have h3:=CE ht xs (aRo.2 λx hx=>hall x (by simp;right;simpa using hx));have hrl:=mH (mH h1 h3) h2;rw[hargs]at hrl;have hrun:(execOp a.eval o).run P E.w= .ok (.enter f (first++xs.map a.eval++caps)) E.w:=by
  unfold execOp;rw[hop];simp only[resolve,hval,Deferred.ofValue,aQ1,aQ4,aQ2,invoke,rY hgo]
 unfold Oper.wp;rw[hrun];refine(hc E _ ho hH hrl).mono ?_;rintro e w' ⟨E',v,r,rfl,rfl,h5,h6,h7,h8⟩;exact fG (λe a w hl=>eY (h5.leN nb) (λ_ _ _ q=>q) hl) l _ _ (h r E'.H h8 E' (a.put o.dst v) h6 rfl ((ht.mono h5.view).put o.dst h7))
theorem wR{id:Nat}{ops:Array Oper}(h:bB P N nb ops Q ops.toList T H):dY P N nb (.region id ops false) Q T H:=
 λE a ho hH ht=>wp_region_list (h E a ho hH ht)
def jY(P:Program)(N:Nat)(T:aD)(H:aC):ResultVar->Option PV
 | .tmp t=>if t<N then some (T t)else none
 | .cell t ty=>if t<N then(cD P ty).bind λi=>iB i H (T t)else none
def fN(P:Program)(N:Nat)(T:aD)(H:aC)(rs:List ResultVar):Option PV:=
 match rs with
 | [r]=>jY P N T H r
 |rs=>(rs.mapM (jY P N T H)).map λvs=>.tup (vs.map PV.drop1)
def aDc(tmps:Array Value):ResultVar->Sem Value
 | .tmp t=>pure (tmps.getD t undef)
 | .cell a t=>do loadVar t (<-asAddr (tmps.getD a undef))
theorem QI(fn:Func)(tmps:Array Value):results fn tmps=(do let vs<-fn.results.mapM (aDc tmps);pure (if h:vs.size=1 then vs[0]else .tuple vs)):=by
 unfold results;congr 2
theorem KP{E:aE}{a:Act}(ho:E.Ok)(ht:eU E.view N a T){r:ResultVar}{v:PV}(h:jY P N T E.H r=some v):
  ∃val,(aDc a.tmps r).run P E.w= .ok val E.w/\aM E.view val v:=by
 cases r with
 |tmp t=>
  unfold jY at h;simp only at h
  split at h
  ·rename_i hN;cases h;exact⟨_,rfl,ht.rel t hN⟩
  ·cases h
 |cell x t=>
  unfold jY at h;simp only at h
  split at h
  ·rename_i hN;obtain⟨i,hi,hv⟩:=bind_some h;obtain⟨val,h1,h2⟩:=BO (P:=P) ho ht (x:=.tmp x) (by simpa[aQ]using hN) hi hv;refine⟨val, ?_,h2⟩;have hp:∃ad,a.tmps.getD x undef= .pointer (some ad):=by
    have hr:=ht.rel x hN;unfold iB at hv
    skip
    split at hv
    ·rename_i id off hT;rw[hT]at hr;exact⟨_,hr.optr_inv.1⟩
    ·rename_i cs hT;rw[hT]at hr;obtain⟨ad,_,e,_,_⟩:=hr.iptr_inv;exact⟨ad,e⟩
    ·cases hv
   obtain⟨ad,hp⟩:=hp;simp only[Act.eval,Instr.loadAt,hp,Instr.sureAddr,aQ1,aQ4,aQ2]at h1;simp only[aDc,hp,asAddr,aQ1,aQ4,aQ2];exact h1
  ·cases h
theorem NB:∀(rs:List ResultVar) (vs:List PV),rs.mapM (jY P N T H)=some vs->vs.length=rs.length:=by
 intro rs
 induction rs with
 |nil=>intro vs h;simp at h;subst h;rfl
 |cons r rs ih=>
  intro vs h;rw[List.mapM_cons]at h;cases h1:jY P N T H r with
  |none=>rw[h1]at h;simp at h
  |some v=>
   cases h2:rs.mapM (jY P N T H)with
   |none=>rw[h1]at h;simp[h2]at h
   |some vs'=>rw[h1]at h;simp[h2]at h;subst h;simp[ih vs' h2]
theorem BS{E:aE}{a:Act}(ho:E.Ok)(ht:eU E.view N a T):∀(rs:List ResultVar) (vs:List PV),rs.mapM (jY P N T E.H)=some vs->
   ∃vals:List Value,(rs.mapM (aDc a.tmps)).run P E.w= .ok vals E.w/\vals.length=vs.length/\∀i (h:i<vs.length),aM E.view (vals.getD i undef) vs[i]:=by
 intro rs
 induction rs with
 |nil=>intro vs h;simp at h;subst h;exact⟨[],rfl,rfl,λi h=>absurd h z6⟩
 |cons r rs ih=>
  intro vs h;rw[List.mapM_cons]at h;cases h1:jY P N T E.H r with
  |none=>rw[h1]at h;simp at h
  |some v=>
   cases h2:rs.mapM (jY P N T E.H)with
   |none=>rw[h1]at h;simp[h2]at h
   |some vs'=>
    rw[h1]at h;simp[h2]at h;subst h;obtain⟨val,e1,e2⟩:=KP ho ht h1;obtain⟨vals,e3,e4,e5⟩:=ih vs' h2;refine⟨val::vals, ?_,by simp[e4],λi hi=> ?_⟩
    ·rw[List.mapM_cons];simp only[aQ1,e1,aQ2,e3,aQ4]
    ·cases i with
     |zero=>exact e2
     |succ i=>exact e5 i (by simpa using hi)
theorem uC{E:aE}{a:Act}(ho:E.Ok)(ht:eU E.view N a T){fn:Func}{v:PV}(h:fN P N T E.H fn.results.toList=some v):
  ∃val,(results fn a.tmps).run P E.w= .ok val E.w/\aM E.view val v:=by
 unfold fN at h;rw[QI,Array.mapM_eq_mapM_toList]
 split at h
 ·rename_i r hr;obtain⟨vals,e1,e2,e3⟩:=BS ho ht [r] [v] (by rw[List.mapM_cons,h];rfl);rw[hr]
  match vals,e2 with
  | [val],_=>
   refine⟨val, ?_,e3 0 z6⟩;simp only[aQ1,Sem.run_map,e1,aQ2,aQ4];rfl
 ·rename_i rs hne;cases h1:fn.results.toList.mapM (jY P N T E.H)with
  |none=>rw[h1]at h;cases h
  |some vs=>
   rw[h1]at h;simp only[aQz,Option.some.injEq]at h;subst h;obtain⟨vals,e1,e2,e3⟩:=BS ho ht _ vs h1;have hl:=NB _ _ h1;have hne1:¬vals.toArray.size=1:=by
    intro hs;have hl2:fn.results.toList.length=1:=by rw[<-hl,<-e2];simpa using hs
    obtain⟨r,hr⟩:=List.length_eq_one_iff.1 hl2;exact hne r hr
   refine⟨.tuple vals.toArray, ?_, .tup _ _ (by simp[e2]) (nK (λi hi=> ?_))⟩
   ·simp only[aQ1,Sem.run_map,e1,aQ2,aQ4,dif_neg hne1]
   ·have:=e3 i hi;rw[aRb]at this;rw[aQm,aQ7];exact this
def enter(args:List PV):aD:=λi=>args.getD i .junk
theorem aF{f:FuncId}{fn:Func}{c:Code}{args:List PV}{R:PV->aC->Prop}(hf:P.funcs[f]? =some fn)(hb:fn.body=some c)(hN:fn.ntmps=N)(hl:args.length<=N)
  (h:kB H.length H->dY P N H.length c (λe T H=>(e= .normal\/e= .ret)/\∃r,fN P N T H fn.results.toList=some r/\R r H) (enter args) H):aL P f args H R:=by
 intro E vargs ho hH hrl;refine calls_of_wp hf hb (wp_mono (h (by have:=ho.hbel;rw[hH]at this;exact this) E _ ho hH ⟨by simp[hrl.1,hN];omega,rfl,λi hi=> ?_⟩) ?_)
 ·rw[aQm,Array.getElem?_append];unfold enter
  by_cases hia:i<args.length
  ·rw[if_pos (by rw[hrl.1];exact hia),<-aQm,aRb,aRa hia];exact hrl.2 i hia
  ·rw[aRb,aQv z8];exact .junk _
 ·rintro e a w ⟨E',T',rfl,h2,h3,h4,he,r,hr,hR⟩;obtain⟨val,h5,h6⟩:=uC (P:=P) (fn:=fn) h3 h4 hr;rcases he with rfl|rfl
  ·exact⟨h4.defers,val,h5,E',val,r,rfl,rfl,(hH▸h2:E.leN E.H.length E').le,h3,h6,hR⟩
  ·exact⟨h4.defers,val,h5,E',val,r,rfl,rfl,(hH▸h2:E.leN E.H.length E').le,h3,h6,hR⟩
end rules
section
variable{P:Program}
theorem aL.pure{f:FuncId}{args:List PV}{r:PV}(h:aL P f args [] λr' _=>r'.drop1=r)(ha:∀p∈args,bW 0 p)(hr:bW 0 r)(H:aC):
  aL P f args H λr' H'=>r'=r/\H'=H:=by
 intro E vargs ho hH hrl
 let E0:aE:= {E with H:= []}
 have ho0:E0.Ok:=⟨λid cs h=>by simp[E0]at h,λid n sz b h=>by simp[E0]at h,λid id' cs cs' h=>by simp[E0]at h,λid id' n sz n' sz' b h=>by simp[E0]at h,λid b vs h=>by simp[E0]at h,⟨λid k h=>by simp[E0]at h,λid id' k k' h=>by simp[E0]at h⟩⟩;have hcell:∀a v,E.view.cell a=some v->E0.view.cell a=some v:=λa v h=>h;have hrl0:RL E0.view vargs args:=⟨hrl.1,λi hi=>(hrl.2 i hi).cut (n:=0) hcell (λid h=>absurd h z8) (ha _ (aRh hi))⟩;refine(h E0 vargs ho0 rfl hrl0).mono ?_;rintro e w' ⟨E1,v,r',rfl,rfl,hle,ho1,hv,hq⟩;have hno:∀b,¬E0.owns b:=by rintro b (⟨id,cs,h,_⟩| ⟨id,n,sz,h,_⟩| ⟨id,k,h,_⟩)<;>simp[E0]at h
 have hsame:∀b,b<E.w.heap.size->E1.κ b=E.κ b/\E1.w.heap[b]? =E.w.heap[b]? :=λb hb=>hle.other b hb (hno b)
 let E2:aE:= {E1 with ρ:=E.ρ,tb:=E.tb,H:=E.H}
 have hview:E.view.le E2.view:=by
  refine⟨λa v hc=>hle.view.cell a v hc,λid h=>h,λid _=>rfl,λid t' hb ht=>⟨t', ?_, .inl rfl⟩⟩;simp only[aE.view,E2]at ht⊢
  split at ht
  ·rename_i n sz hid;rw[<-ht];cases htb:E.tb id with
   |none=>rfl
   |some b=>simp only[aQw,(hsame b (ho.bufBlock hid htb)).1]
  ·cases ht
 have hle2:E.le E2:=by
  refine⟨hle.os,hle.tape,hle.output,hle.size,λb hb _=>hsame b hb,hview,λb _=>id⟩
 have ho2:E2.Ok:=by
  refine⟨?_, ?_,ho.injr,ho.injb,ho.globs_of hview.cell λ_ _ _ h=>h,ho.objs.of hview λid k hi=>let ⟨s1,s2⟩:=hsame _ (ho.objs.lt hi);⟨hi,rfl,s2,s1⟩⟩
  ·intro id cs hi;obtain⟨arr,elem,h1,h2,h3,h4⟩:=ho.rows id cs hi;obtain⟨s1,s2⟩:=hsame _ (ho.rowBlock hi);exact⟨arr,elem,s2.trans h1,h2,λi hl=>(h3 i hl).mono hview,s1.trans h4⟩
  ·intro id n sz b hi hb;obtain⟨arr,elem,pos,h1,h2⟩:=ho.bufs id n sz b hi hb;obtain⟨s1,s2⟩:=hsame _ (ho.bufBlock hi hb);exact⟨arr,elem,pos,s2.trans h1,s1.trans h2⟩
 refine⟨E2,v,r,rfl,rfl,hle2,ho2, ?_,rfl,hH⟩;have hv':=hv.drop1;rw[hq]at hv';exact aM.cut (V:=E1.view) (V':=E2.view) (n:=0) (λa v h=>h) (λid h=>absurd h z8) hv' hr
theorem aL.trunc{f:FuncId}{args:List PV}{H:aC}{R:PV->aC->Prop}
  (h:aL P f args H λr H'=>∃H1 L,H'=H1++L/\H1.length=H.length/\(kB H.length H->kB H.length H1)/\bW H.length r/\R r H1):aL P f args H R:=by
 intro E vargs ho hH hrl;refine(h E vargs ho hH hrl).mono ?_;rintro e w' ⟨E1,v,r,rfl,rfl,hle,ho1,hv,H1,L,hE1,hlen,hbel,hr,hR⟩;have hb1:kB H1.length H1:=by rw[hlen];exact hbel (by have:=ho.hbel;rw[hH]at this;exact this)
 refine⟨E1.cutH H1,v,r,rfl,rfl, ?_,ho1.cutH hE1 hb1,aE.cutH_rel hE1 hv (by rw[hlen];exact hr),hR⟩;have hn:E.H.length=H1.length:=by rw[hH,hlen]
 exact((hle.leN E.H.length).trans (aE.cutH_leN hE1 (Nat.le_of_eq hn))).le
end
def pV(ops:List Oper)(o:Oper):List Nat:=
  (o.op.operands.toList.filterMap fun| .tmp t=>some t|_=>none)++(match o.guard with|some (j,_)=>((ops[j]?).bind (·.dst)).toList|none=> [])
def kW(H:aC)(es:List (Nat×AObj)):aC:=es.foldl (λH x=>H.set x.1 x.2) H
def Rob(P:Program)(N:Nat)(ops:Array Oper)(o:Oper)(T:aD)(H:aC)(v:PV)(eff:List (Nat×AObj))(rd:List Nat):Prop:=
  ∀(T':aD) (H':aC),(∀t∈pV ops.toList o,T' t=T t)->(∀id∈rd,H'[id]? =H[id]?)->H'.length=H.length->
    ∀(E:aE) (a:Act),E.Ok->E.H=H'->eU E.view N a T'->
      (Region.wanted o (yielded ops a.tmps)=false/\eff= []/\(v= .junk\/v= .tup []))\/
      (Region.wanted o (yielded ops a.tmps)=true/\∀(next:Act->World->Prop) (Q:Exit->Act->World->Prop),
        (∀(E':aE) (val:Value),E.le E'->E'.Ok->E'.H=kW H' eff->aM E'.view val v->next (a.put o.dst val) E'.w)->o.wp P a E.w next Q)
def DG(acc:List Nat)(o:Oper):List Nat:=
  acc++ [o.after.toList.foldl (λs e=>if Region.binds .any e then s ||| 2^e.on ||| acc.getD e.on 0 else s) 0]
def cG(l:List Oper):List Nat:=l.foldl DG []
inductive Bf(ops:List Oper):Nat->Nat->Prop
  |edge {j:Nat} {o:Oper} {e:Edge} (ho:ops[j]? =some o) (he:e∈o.after.toList) (hb:Region.binds .any e=true):Bf ops e.on j
  |trans {i k j:Nat} (h1:Bf ops i k) (h2:Bf ops k j):Bf ops i j
theorem yY{n i:Nat}(h:(2^n).testBit i=true):i=n:=by
  rw[Nat.testBit_two_pow]at h;exact(of_decide_eq_true h).symm
theorem nW(ops:List Oper):∀(n:Nat) (p rest:List Oper),p.length=n->p++rest=ops->(p.foldl DG []).length=p.length/\∀j i,((p.foldl DG []).getD j 0).testBit i=true->Bf ops i j:=by
  intro n
  induction n with
  |zero=>intro p rest hn h;obtain rfl:=List.length_eq_zero_iff.1 hn;exact⟨rfl,λj i h=>by simp at h⟩
  |succ n ih=>
    intro p0 rest hn h;obtain⟨p,o,rfl⟩:∃p o,p0=p++ [o]:=by
      have hne:p0≠ []:=by rintro rfl;simp at hn
      exact⟨p0.dropLast,p0.getLast hne,(List.dropLast_concat_getLast hne).symm⟩
    obtain⟨h1,h2⟩:=ih p (o::rest) (by simpa using hn) (by simpa using h);rw[List.foldl_append];simp only[List.foldl_cons,List.foldl_nil,DG];refine⟨by simp[h1],λj i hb=> ?_⟩
    by_cases hj:j<p.length
    · rw[aRb,aQt z8,<-aRb]at hb
      exact h2 j i hb
    · by_cases hj':j=p.length
      · subst hj'
        rw[aRb,aQu z8,h1]at hb;simp only[Nat.sub_self,aRl,aQs]at hb;have ho:ops[p.length]? =some o:=by rw[<-h];simp
        have key:∀(es:List Edge) (s:Nat),(∀e∈es,e∈o.after.toList)->(∀i,s.testBit i=true->Bf ops i p.length)->
            (es.foldl (λs e=>if Region.binds .any e then s ||| 2^e.on ||| (p.foldl DG []).getD e.on 0 else s) s).testBit i=true->Bf ops i p.length:=by
          intro es
          induction es with
          |nil=>intro s _ hs hb;exact hs i hb
          |cons e es ih2=>
            intro s hm hs hb;simp only[List.foldl_cons]at hb;refine ih2 _ (λe he=>hm e (by simp[he])) (λi hi=> ?_) hb
            split at hi
            · rename_i hbd
              rw[Nat.testBit_or,Nat.testBit_or]at hi;simp only[aRv]at hi;have hed:Bf ops e.on p.length:=.edge ho (hm e z6) hbd;rcases hi with(hi|hi)|hi
              · exact hs i hi
              · rw[yY hi];exact hed
              · exact .trans (h2 _ _ hi) hed
            · exact hs i hi
        exact key o.after.toList 0 (λe he=>he) (λi hi=>by simp at hi) hb
      · rw[aRb,aQv (by simp[h1];omega)]at hb
        simp at hb
structure qY where
  o:Oper
  v:PV
  eff:List (Nat×AObj)
  rd:List Nat
def qY.app(s:qY)(x:aD×aC):aD×aC:=(bT x.1 s.o.dst s.v,kW x.2 s.eff)
def cO(D:Nat->Bool):Nat->List qY->aD×aC->aD×aC
  |_,[],x=>x
  |k,s::l,x=>cO D (k+1) l (if D k then s.app x else x)
theorem uA:∀(es:List (Nat×AObj)) (H:aC),(kW H es).length=H.length
  | [],H=>rfl
  |e::es,H=>by
    show(kW (H.set e.1 e.2) es).length=_;rw[uA es];simp
theorem AC:∀(es:List (Nat×AObj)) (H:aC) (id:Nat),(∀e∈es,e.1≠id)->(kW H es)[id]? =H[id]?
  | [],H,id,_=>rfl
  |e::es,H,id,h=>by
    show(kW (H.set e.1 e.2) es)[id]? =_;rw[AC es _ id (λe he=>h e (by simp[he])),aQy (h e z6)]
theorem tQ:∀(es:List (Nat×AObj)) (H H':aC) (id:Nat),H.length=H'.length->H[id]? =H'[id]? ->(kW H es)[id]? =(kW H' es)[id]?
  | [],H,H',id,_,h=>h
  |e::es,H,H',id,hl,h=>by
    refine tQ es _ _ id (by simp[hl]) ?_
    by_cases q:e.1=id
    · subst q
      by_cases hlt:e.1<H.length
      · rw[aQx hlt,aQx z8]
      · rw[aQv (by simp;omega),aQv (by simp;omega)]
    · rw[aQy q,aQy q];exact h
theorem GV:∀(es es':List (Nat×AObj)) (H:aC),(∀x∈es,∀y∈es',x.1≠y.1)->kW (kW H es) es'=kW (kW H es') es
  | [],es',H,_=>rfl
  |e::es,es',H,h=>by
    have h1:∀(es':List (Nat×AObj)) (H:aC),(∀y∈es',e.1≠y.1)->kW (H.set e.1 e.2) es'=(kW H es').set e.1 e.2:=by
      intro es'
      induction es' with
      |nil=>intro H _;rfl
      |cons f es' ih=>
        intro H hq;show kW ((H.set e.1 e.2).set f.1 f.2) es'=(kW (H.set f.1 f.2) es').set e.1 e.2;rw[List.set_comm _ _ (hq f z6),ih _ (λy hy=>hq y (by simp[hy]))]
    show kW (kW (H.set e.1 e.2) es) es'=kW ((kW H es').set e.1 e.2) es;rw[<-h1 es' H (λy hy=>h e z6 y hy)];exact GV es es' _ (λx hx y hy=>h x (by simp[hx]) y hy)
theorem WD{T:aD}{d d':Option Nat}{v v':PV}(h:d=none\/d'=none\/d≠d'):bT (bT T d v) d' v'=bT (bT T d' v') d v:=by
  cases d with
  |none=>rfl
  |some d=>
    cases d' with
    |none=>rfl
    |some d'=>
      have hne:d≠d':=by
        rcases h with h|h|h; · cases h
        · cases h
        · exact λe=>h (by rw[e])
      funext i;simp only[bT,nO]
      by_cases h1:i=d
      · subst h1;rw[if_neg hne,if_pos rfl,if_pos rfl]
      · by_cases h2:i=d'
        · subst h2;rw[if_pos rfl,if_neg h1,if_pos rfl]
        · rw[if_neg h2,if_neg h1,if_neg h1,if_neg h2]
def aA3(s s':qY):Prop:=(s.o.dst=none\/s'.o.dst=none\/s.o.dst≠s'.o.dst)/\∀x∈s.eff,∀y∈s'.eff,x.1≠y.1
theorem qY.comm{s s':qY}(h:aA3 s s')(x:aD×aC):s'.app (s.app x)=s.app (s'.app x):=by
  unfold qY.app;rw[WD h.1,GV _ _ _ h.2]
theorem LZ(D:Nat->Bool)(s:qY):∀(l:List qY) (k:Nat) (x:aD×aC),(∀j s',l[j]? =some s'->D (k+j)=true->aA3 s s')->cO D k l (s.app x)=s.app (cO D k l x)
  | [],k,x,_=>rfl
  |s'::l,k,x,h=>by
    have ih:=λx=>LZ D s l (k+1) x (λj s'' hj hD=>h (j+1) s'' (by simpa using hj) (by rw[show k+(j+1)=k+1+j by omega];exact hD));simp only[cO]
    split
    · rename_i hD
      rw[qY.comm (h 0 s' rfl hD),ih]
    · rw[ih]
theorem gC{D D':Nat->Bool}:∀(l:List qY) (k:Nat) (x:aD×aC),(∀j,j<l.length->D (k+j)=D' (k+j))->cO D k l x=cO D' k l x
  | [],_,_,_=>rfl
  |s::l,k,x,h=>by
    simp only[cO];have h0:D k=D' k:=by simpa using h 0 z6
    rw[h0];exact gC l (k+1) _ λj hj=>by have:=h (j+1) (by simpa using hj);rw[show k+(j+1)=k+1+j by omega]at this;exact this
theorem tF(D:Nat->Bool){i:Nat}(hi:D i=false):∀(l:List qY) (k:Nat) (x:aD×aC) (s:qY),k<=i->l[i-k]? =some s->(∀j s',i<k+j->l[j]? =some s'->D (k+j)=true->aA3 s s')->cO (λj=>j==i||D j) k l x=s.app (cO D k l x)
  | [],k,x,s,_,h,_=>by simp at h
  |s'::l,k,x,s,hk,h,ha=>by
    simp only[cO]
    by_cases e:k=i
    · subst e
      simp only[Nat.sub_self,aRl,Option.some.injEq]at h;subst h;simp only[beq_self_eq_true,Bool.true_or,if_true,hi,aQ9,if_false];rw[gC (D':=D) l (k+1) _ (λj hj=>by
        have:¬(k+1+j=k):=z8
        simp[this])]
      exact LZ D s' l (k+1) x (λj s'' hj hD=>ha (j+1) s'' z8 (by simpa using hj) (by rw[show k+(j+1)=k+1+j by omega];exact hD))
    · have hne:(k==i)=false:=by simp[e]
      simp only[hne,Bool.false_or];exact tF D hi l (k+1) _ s z8 (by rw[show i-k=(i- (k+1))+1 by omega,List.getElem?_cons_succ]at h;exact h)
        (λj s'' hj hl hD=>ha (j+1) s'' z8 (by simpa using hl) (by rw[show k+(j+1)=k+1+j by omega];exact hD))
theorem yX{D D':Nat->Bool}{t:Nat}:∀(l:List qY) (k:Nat) (x x':aD×aC),x.1 t=x'.1 t->(∀j s,l[j]? =some s->D (k+j)≠D' (k+j)->s.o.dst≠some t)->(cO D k l x).1 t=(cO D' k l x').1 t
  | [],_,_,_,h,_=>h
  |s::l,k,x,x',h,hd=>by
    simp only[cO];refine yX l (k+1) _ _ ?_ (λj s' hj hD=>hd (j+1) s' (by simpa using hj) (by rw[show k+(j+1)=k+1+j by omega];exact hD));have hsame:∀(x:aD×aC),s.o.dst≠some t->(s.app x).1 t=x.1 t:=by
      intro x hne;unfold qY.app bT nO;cases hq:s.o.dst with
      |none=>rfl
      |some d=>
        have:t≠d:=by rintro rfl;exact hne hq
        simp only[if_neg this]
    have hboth:(s.app x).1 t=(s.app x').1 t:=by
      unfold qY.app bT nO;cases hq:s.o.dst with
      |none=>exact h
      |some d=>
        by_cases e:t=d
        · simp only[if_pos e]
        · simp only[if_neg e];exact h
    by_cases hD:D k=D' k
    · rw[<-hD]
      split
      · exact hboth
      · exact h
    · have hne:=hd 0 s rfl hD
      split<;>split
      · exact hboth
      · rw[hsame _ hne];exact h
      · rw[hsame _ hne];exact h
      · exact h
theorem tX(D:Nat->Bool):∀(l:List qY) (k:Nat) (x:aD×aC),(cO D k l x).2.length=x.2.length
  | [],_,_=>rfl
  |s::l,k,x=>by
    simp only[cO];rw[tX D l]
    split
    · exact uA _ _
    · rfl
theorem yK{D D':Nat->Bool}{id:Nat}:∀(l:List qY) (k:Nat) (x x':aD×aC),x.2.length=x'.2.length->x.2[id]? =x'.2[id]? ->(∀j s,l[j]? =some s->D (k+j)≠D' (k+j)->∀e∈s.eff,e.1≠id)->(cO D k l x).2[id]? =(cO D' k l x').2[id]?
  | [],_,_,_,_,h,_=>h
  |s::l,k,x,x',hl,h,hd=>by
    simp only[cO];have hll:(if D k then s.app x else x).2.length=(if D' k then s.app x' else x').2.length:=by
      have e1:∀y:aD×aC,(s.app y).2.length=y.2.length:=λy=>uA _ _
      split<;>split<;>simp only[e1,hl]
    refine yK l (k+1) _ _ hll ?_ (λj s' hj hD=>hd (j+1) s' (by simpa using hj) (by rw[show k+(j+1)=k+1+j by omega];exact hD))
    by_cases hD:D k=D' k
    · rw[<-hD]
      split
      · exact tQ _ _ _ _ hl h
      · exact h
    · have hne:=hd 0 s rfl hD
      have e1:∀y:aD×aC,(s.app y).2[id]? =y.2[id]? :=λy=>AC _ _ _ hne
      split<;>split<;>simp only[e1,h]
def eO(ops:Array Oper)(listed:Array Bool)(i:Nat):Bool:=
  !listed.getD i true&&((ops[i]?).map (·.after.all λe=> !Region.binds .any e||listed.getD e.on false)).getD false
def nS(ops:Array Oper):Nat->Nat->Array Bool->List Nat
  |0,_,_=> []
  |fuel+1,t,listed=>
    match((List.range ops.size).filter (eO ops listed))[t%((List.range ops.size).filter (eO ops listed)).length]? with
    |some i=>i::nS ops fuel (t/ ((List.range ops.size).filter (eO ops listed)).length) (listed.setIfInBounds i true)
    |none=> []
theorem aBo(ops:Array Oper):∀(fuel t:Nat) (listed:Array Bool) (acc:List Nat),Region.linearise.go .any ops fuel t listed acc=acc.reverse++nS ops fuel t listed
  |0,t,listed,acc=>by simp[Region.linearise.go,nS]
  |fuel+1,t,listed,acc=>by
    unfold Region.linearise.go nS;show(match((List.range ops.size).filter (eO ops listed))[t%((List.range ops.size).filter (eO ops listed)).length]? with
      |some i=>_
      |none=>_)=_
    split
    · rename_i i hi
      have:=aBo ops fuel (t/ ((List.range ops.size).filter (eO ops listed)).length) (listed.setIfInBounds i true) (i::acc);rw[show((i::acc).reverse++nS ops fuel (t/ ((List.range ops.size).filter (eO ops listed)).length) (listed.setIfInBounds i true))=acc.reverse++i::nS ops fuel (t/ ((List.range ops.size).filter (eO ops listed)).length) (listed.setIfInBounds i true)by simp]at this;exact this
    · simp
def kM(l:List Oper):Bool:=(l.zipIdx.all λ(o,i)=>o.after.toList.all λe=> !Region.binds .any e||decide (e.on<i))
theorem kY{l:List Oper}(h:kM l=true){i:Nat}{o:Oper}(ho:l[i]? =some o){e:Edge}(he:e∈o.after.toList)(hb:Region.binds .any e=true):e.on<i:=by
  unfold kM at h;rw[aRo]at h;have hm:(o,i)∈l.zipIdx:=by
    rw[List.mem_zipIdx_iff_getElem?];exact ho
  have:=h _ hm;simp only[aRo]at this;have:=this e he;rw[hb]at this;simpa using this
def mD(l:List Oper)(bm:List Nat):Bool:=
  l.zipIdx.all λ(o,j)=>l.zipIdx.all λ(o',i)=>
    !decide (i<j)||(bm.getD j 0).testBit i||
      (match o'.dst with
       |some d=> !(o.dst==some d)&& !(pV l o).contains d
       |none=>true)&&
      (match o.dst with
       |some d=> !(pV l o').contains d
       |none=>true)
theorem fW{l:List Oper}{bm:List Nat}(h:mD l bm=true){i j:Nat}(hij:i<j){o o':Oper}(ho':l[i]? =some o')(ho:l[j]? =some o)(hb:(bm.getD j 0).testBit i=false):(o'.dst=none\/o.dst=none\/o'.dst≠o.dst)/\(∀t∈pV l o,o'.dst≠some t)/\(∀t∈pV l o',o.dst≠some t):=by
  unfold mD at h;rw[aRo]at h;have h1:=h (o,j) (by rw[List.mem_zipIdx_iff_getElem?];exact ho);simp only[aRo]at h1;have h2:=h1 (o',i) (by rw[List.mem_zipIdx_iff_getElem?];exact ho');simp only[hij,decide_true,aRq,hb,Bool.false_or,aQd]at h2;obtain⟨h3,h4⟩:=h2;refine⟨?_, ?_, ?_⟩
  · cases hq:o'.dst with
    |none=>exact .inl rfl
    |some d=>
      rw[hq]at h3;simp only[aQd,aQe,beq_eq_false_iff_ne,ne_eq]at h3;exact .inr (.inr λe=>h3.1 e.symm)
  · intro t ht e
    rw[e]at h3;simp only[aQd,aQe]at h3;have:=h3.2;rw[List.contains_iff_mem.2 ht]at this;cases this
  · intro t ht e
    rw[e]at h4;simp only[aQe]at h4;rw[List.contains_iff_mem.2 ht]at h4;cases h4
theorem Bf.closed{l:List Oper}{listed:Nat->Bool}(h:∀j o,l[j]? =some o->listed j=true->∀e∈o.after.toList,Region.binds .any e=true->listed e.on=true){i j:Nat}(hb:Bf l i j)(hj:listed j=true):listed i=true:=by
 induction hb with
 |edge ho he hbd=>exact h _ _ ho hj _ he hbd
 |trans _ _ ih1 ih2=>exact ih1 (ih2 hj)
theorem Bf.pre{l:List Oper}{listed:Nat->Bool}{i:Nat}(h:∀j o,l[j]? =some o->(listed j=true\/j=i)->∀e∈o.after.toList,Region.binds .any e=true->listed e.on=true){k:Nat}(hb:Bf l k i):listed k=true:=by
 have hcl:∀j o,l[j]? =some o->listed j=true->∀e∈o.after.toList,Region.binds .any e=true->listed e.on=true:=λj o ho hj=>h j o ho (.inl hj);have key:∀ {k j:Nat},Bf l k j->j=i->listed k=true:=by
  intro k j hb
  induction hb with
  |edge ho he hbd=>rintro rfl;exact h _ _ ho (.inr rfl) _ he hbd
  |trans h1 _ ih1 ih2=>intro e;exact h1.closed hcl (ih2 e)
 exact key hb rfl
structure aFm(P:Program)(N:Nat)(ops:Array Oper)(S:List qY)(x:aD×aC):Prop where
 ops_eq:S.map (·.o)=ops.toList
 rob:∀i s,S[i]? =some s->Rob P N ops s.o (cO (λj=>decide (j<i)) 0 S x).1 (cO (λj=>decide (j<i)) 0 S x).2 s.v s.eff s.rd
 own:∀s∈S,∀e∈s.eff,e.1∈s.rd
 apart:∀i j s s',i<j->S[i]? =some s->S[j]? =some s'->((cG ops.toList).getD j 0).testBit i=true\/((∀e∈s.eff,e.1∉s'.rd)/\∀e∈s'.eff,e.1∉s.rd)
section
variable{P:Program}{N nb:Nat}{ops:Array Oper}{S:List qY}{x:aD×aC}{Q:dG}
theorem DW{P:Program}{Q:Exit->Act->World->Prop}{a:Act}{w:World}{rest:List Nat}{i:Nat}{o:Oper}(ho:ops[i]? =some o)
  (h:if Region.wanted o (yielded ops a.tmps)then o.wp P a w (wpOps P ops Q rest) Q else wpOps P ops Q rest (a.put o.dst undef) w):wpOps P ops Q (i::rest) a w:=by
 unfold wpOps;simp only[ho]
 split
 ·rename_i hw;rw[if_pos hw]at h;exact .inl h
 ·rename_i hw;rw[if_neg hw]at h;exact h
theorem VO(hb:kM ops.toList=true)(hs:mD ops.toList (cG ops.toList)=true)(tr:aFm P N ops S x)(hQ:Q .normal (cO (λ_=>true) 0 S x).1 (cO (λ_=>true) 0 S x).2)(E0:aE):
  ∀(fuel t:Nat) (listed:Array Bool) (E:aE) (a:Act),listed.size=ops.size->((List.range ops.size).filter λi=> !listed.getD i true).length<=fuel->
   (∀j o,ops.toList[j]? =some o->listed.getD j false=true->∀e∈o.after.toList,Region.binds .any e=true->listed.getD e.on false=true)->
   E0.leN nb E->E.Ok->E.H=(cO (λj=>listed.getD j false) 0 S x).2->eU E.view N a (cO (λj=>listed.getD j false) 0 S x).1->wpOps P ops (AL N nb E0 Q) (nS ops fuel t listed) a E.w:=by
 have hlen:S.length=ops.size:=by rw[<-aQq,<-tr.ops_eq];simp
 have hop:∀(i:Nat) (s:qY),S[i]? =some s->ops.toList[i]? =some s.o:=by
  intro i s h;rw[<-tr.ops_eq,aQ8,h];rfl
 intro fuel
 induction fuel with
 |zero=>
  intro t listed E a hsz hcnt hcl hle ho hH ht;have hall:∀j,j<S.length->listed.getD j false=true:=by
   intro j hj;cases hq:listed.getD j false with
   |true=>rfl
   |false=>
    have hm:j∈(List.range ops.size).filter λi=> !listed.getD i true:=by
     rw[aRw];refine⟨aRx.2 z8, ?_⟩;rw[aQm,aQr z8]at hq⊢;simpa using hq
    have:=List.length_pos_of_mem hm;omega
  rw[gC (D':=λ_=>true) S 0 x (λj hj=>by simpa using hall j hj)]at hH ht;exact⟨E,_,rfl,hle,ho,ht,hH▸hQ⟩
 |succ fuel ih=>
  intro t listed E a hsz hcnt hcl hle ho hH ht;unfold nS
  by_cases hdone:∀j,j<ops.size->listed.getD j false=true
  ·have hrs:(List.range ops.size).filter (eO ops listed)= []:=by
    rw[List.filter_eq_nil_iff];intro j hj;rw[aRx]at hj;have:=hdone j hj;unfold eO;rw[aQm,aQr z8]at this⊢;simp only[aQs]at this⊢;simp[this]
   rw[hrs];rw[gC (D':=λ_=>true) S 0 x (λj hj=>by simpa using hdone j z8)]at hH ht;exact⟨E,_,rfl,hle,ho,ht,hH▸hQ⟩
  ·
   have hex:∃j,j<ops.size/\listed.getD j false=false:=by
    apply Classical.byContradiction;intro hno;apply hdone;intro j hj;cases hq:listed.getD j false with
    |true=>rfl
    |false=>exact(hno ⟨j,hj,hq⟩).elim
   obtain⟨j0,⟨hj0,hl0⟩,hmin⟩:=rT hex;have tY:∀(j:Nat),j<ops.size->∀b c:Bool,listed.getD j b=listed.getD j c:=by
    intro j hj b c;rw[aQm,aQm,aQr z8];rfl
   have hready:eO ops listed j0=true:=by
    unfold eO;rw[tY j0 hj0 true false,hl0,aQr hj0];simp only[aRm,Bool.true_and,aQz,aQs];rw[Array.all_eq_true'];intro e he;cases hbd:Region.binds .any e with
    |false=>rfl
    |true=>
     have hon:=kY hb (i:=j0) (o:=ops[j0]) (by simp[hj0]) (e:=e) (by simpa using he) hbd;simp only[aRq,Bool.false_or];cases hq:listed.getD e.on false with
     |true=>rfl
     |false=>have:=hmin e.on ⟨z8,hq⟩;omega
   have hne:(List.range ops.size).filter (eO ops listed)≠ []:=by
    intro hnil;have:j0∈(List.range ops.size).filter (eO ops listed):=aRw.2 ⟨aRx.2 hj0,hready⟩;rw[hnil]at this;cases this
   have hpos:0<((List.range ops.size).filter (eO ops listed)).length:=List.length_pos_iff.2 hne;have hlt:=Nat.mod_lt t hpos;rw[aRa hlt];simp only;generalize hi:((List.range ops.size).filter (eO ops listed))[t%((List.range ops.size).filter (eO ops listed)).length]=i;have him:i∈(List.range ops.size).filter (eO ops listed):=by rw[<-hi];exact aRh hlt
   obtain⟨him1,him2⟩:=aRw.1 him;rw[aRx]at him1;unfold eO at him2;rw[tY i him1 true false,aQr him1]at him2;simp only[aQd,aQe,aQz,aQs]at him2;obtain⟨hnl,hpre⟩:=him2;rw[Array.all_eq_true']at hpre;obtain⟨s,hs_i⟩:∃s,S[i]? =some s:=⟨S[i]'z8,aRa _⟩;have hso:=hop i s hs_i;have hop_i:ops[i]? =some s.o:=by rw[aRc]at hso;exact hso
   have hso':ops[i]=s.o:=by rw[aQr him1]at hop_i;simpa using hop_i
   have hprei:∀e∈s.o.after.toList,Region.binds .any e=true->listed.getD e.on false=true:=by
    intro e he hbd;have:=hpre e (by rw[hso'];simpa using he);rw[hbd]at this;simpa using this
   have hBfD:∀ {k j:Nat},Bf ops.toList k j->listed.getD j false=true->listed.getD k false=true:=λhbf hj=>hbf.closed (listed:=λj=>listed.getD j false) hcl hj;have hBfI:∀ {k:Nat},Bf ops.toList k i->listed.getD k false=true:=λhbf=>Bf.pre (listed:=λj=>listed.getD j false) (i:=i) (λj o hoo hj e he hbd=>by
    rcases hj with hj|rfl
    ·exact hcl j o hoo hj e he hbd
    ·rw[hso]at hoo;cases hoo;exact hprei e he hbd) hbf
   have hbmB:∀ {k j:Nat},((cG ops.toList).getD j 0).testBit k=true->Bf ops.toList k j:=λh=>(nW ops.toList _ ops.toList [] rfl z6).2 _ _ h;have hun1:∀j,i<j->listed.getD j false=true->((cG ops.toList).getD j 0).testBit i=false:=by
    intro j hij hj;cases hq:((cG ops.toList).getD j 0).testBit i with
    |false=>rfl
    |true=>have:=hBfD (hbmB hq) hj;rw[hnl]at this;cases this
   have hun2:∀k,k<i->listed.getD k false=false->((cG ops.toList).getD i 0).testBit k=false:=by
    intro k hki hk;cases hq:((cG ops.toList).getD i 0).testBit k with
    |false=>rfl
    |true=>have:=hBfI (hbmB hq);rw[hk]at this;cases this
   let D:Nat->Bool:=λj=>listed.getD j false
   have hslot:∀t∈pV ops.toList s.o,(cO D 0 S x).1 t=(cO (λj=>decide (j<i)) 0 S x).1 t:=by
    intro t htm;refine yX S 0 x x rfl (λj s' hj hD=> ?_);rw[aRe]at hD;have hoj:=hop j s' hj
    by_cases hji:j<i
    ·have hDj:D j=false:=by
      cases hq:D j with
      |false=>rfl
      |true=>rw[hq]at hD;simp[hji]at hD
     exact(fW hs hji hoj hso (hun2 j hji hDj)).2.1 t htm
    ·have hDj:D j=true:=by
      cases hq:D j with
      |true=>rfl
      |false=>rw[hq]at hD;simp[hji]at hD
     have hne:j≠i:=by rintro rfl;rw[show D j=false from hnl]at hDj;cases hDj
     exact(fW hs (by omega:i<j) hso hoj (hun1 j z8 hDj)).2.2 t htm
   have hheap:∀id∈s.rd,(cO D 0 S x).2[id]? =(cO (λj=>decide (j<i)) 0 S x).2[id]? :=by
    intro id hid;refine yK S 0 x x rfl rfl (λj s' hj hD e he heq=> ?_);rw[aRe]at hD
    by_cases hji:j<i
    ·have hDj:D j=false:=by
      cases hq:D j with
      |false=>rfl
      |true=>rw[hq]at hD;simp[hji]at hD
     rcases tr.apart j i s' s hji hj hs_i with h|h
     ·rw[hun2 j hji hDj]at h;cases h
     ·exact h.1 e he (heq▸hid)
    ·have hDj:D j=true:=by
      cases hq:D j with
      |true=>rfl
      |false=>rw[hq]at hD;simp[hji]at hD
     have hne:j≠i:=by rintro rfl;rw[show D j=false from hnl]at hDj;cases hDj
     rcases tr.apart i j s s' z8 hs_i hj with h|h
     ·rw[hun1 j z8 hDj]at h;cases h
     ·exact h.2 e he (heq▸hid)
   have hlenr:(cO D 0 S x).2.length=(cO (λj=>decide (j<i)) 0 S x).2.length:=by rw[tX,tX]
   have hins:cO (λj=>(listed.setIfInBounds i true).getD j false) 0 S x=s.app (cO D 0 S x):=by
    rw[<-tF D (i:=i) hnl S 0 x s (aRk _) (by simpa using hs_i)]
    ·refine gC S 0 x (λj hj=> ?_);rw[aRe];simp only[D];rw[aQm,aQm]
     by_cases e:j=i
     ·subst e;rw[aQn z8];simp
     ·rw[aQo (λq=>e q.symm)];have:(j==i)=false:=by simp[e]
      rw[this];simp
    ·intro j s' hij hj hDj;rw[aRe]at hij hDj;have hb':=hun1 j hij hDj;refine⟨(fW hs hij hso (hop j s' hj) hb').1,λe he y hy heq=> ?_⟩;rcases tr.apart i j s s' hij hs_i hj with h|h
     ·rw[hb']at h;cases h
     ·exact h.1 e he (heq▸tr.own s' (List.mem_of_getElem? hj) y hy)
   have hcnt':((List.range ops.size).filter λk=> !(listed.setIfInBounds i true).getD k true).length<=fuel:=by
    have hsub:((List.range ops.size).filter λk=> !(listed.setIfInBounds i true).getD k true).length<((List.range ops.size).filter λk=> !listed.getD k true).length:=by
     have e1:(List.range ops.size).filter (λk=> !(listed.setIfInBounds i true).getD k true)=((List.range ops.size).filter λk=> !listed.getD k true).filter λk=>k != i:=by
      rw[List.filter_filter];apply List.filter_congr;intro k hk;rw[aQm,aQm]
      by_cases e:k=i
      ·subst e;rw[aQn z8];simp
      ·rw[aQo (λq=>e q.symm)];simp[e]
     rw[e1];refine List.length_filter_lt_length_iff_exists.2 ⟨i, ?_,z6⟩;rw[aRw];exact⟨aRx.2 him1,by rw[tY i him1 true false,hnl];rfl⟩
    omega
   have hcl':∀j o,ops.toList[j]? =some o->(listed.setIfInBounds i true).getD j false=true->∀e∈o.after.toList,Region.binds .any e=true->(listed.setIfInBounds i true).getD e.on false=true:=by
    intro j o hoo hj e he hbd;have hup:∀k,listed.getD k false=true->(listed.setIfInBounds i true).getD k false=true:=by
     intro k hk;rw[aQm]at hk⊢
     by_cases q:k=i
     ·subst q;rw[aQn z8];rfl
     ·rw[aQo (λz=>q z.symm)];exact hk
    apply hup
    by_cases q:j=i
    ·subst q;rw[hso]at hoo;cases hoo;exact hprei e he hbd
    ·rw[aQm,aQo (λz=>q z.symm),<-aQm]at hj;exact hcl j o hoo hj e he hbd
   have hrob:=tr.rob i s hs_i (cO D 0 S x).1 (cO D 0 S x).2 hslot hheap hlenr E a ho hH ht;refine DW hop_i ?_;rcases hrob with⟨hw,he0,hv0⟩| ⟨hw,hgo⟩
   ·rw[if_neg (by rw[hw];simp)];refine ih _ _ E _ (by simp[hsz]) hcnt' hcl' hle ho ?_ ?_
    ·rw[hins];simp only[qY.app,he0,kW,List.foldl_nil];exact hH
    ·rw[hins];simp only[qY.app];rcases hv0 with e|e
     ·rw[e];exact ht.put s.o.dst (.junk _)
     ·rw[e];exact ht.put s.o.dst (.tup _ _ rfl (λi h=>absurd h z6))
   ·rw[if_pos hw];refine hgo _ _ (λE' val hle' ho' hH' hv'=> ?_);refine ih _ _ E' _ (by simp[hsz]) hcnt' hcl' (hle.trans (hle'.leN nb)) ho' ?_ ?_
    ·rw[hins];simp only[qY.app];exact hH'
    ·rw[hins];simp only[qY.app];exact(ht.mono hle'.view).put s.o.dst hv'
end
theorem nF(D:Nat->Bool):∀(l1 l2:List qY) (k:Nat) (x:aD×aC),cO D k (l1++l2) x=cO D (k+l1.length) l2 (cO D k l1 x)
 | [],l2,k,x=>rfl
 |s::l1,l2,k,x=>by
  simp only[aQf,cO];rw[nF D l1 l2 (k+1)];congr 1;simp only[aQ0];omega
theorem rM{D:Nat->Bool}:∀(l:List qY) (k:Nat) (x:aD×aC),(∀j,j<l.length->D (k+j)=false)->cO D k l x=x
 | [],_,_,_=>rfl
 |s::l,k,x,h=>by
  simp only[cO];have h0:D k=false:=by simpa using h 0 z6
  rw[h0];exact rM l (k+1) x λj hj=>by have:=h (j+1) (by simpa using hj);rw[show k+(j+1)=k+1+j by omega]at this;exact this
abbrev fD:=List (Nat×List Nat×List Nat)
def gU(P:Program)(N:Nat)(ops:Array Oper)(Q:dG):Nat->List Oper->fD->aD->aC->Prop
 |_,[],_,T,H=>Q .normal T H
 |k,o::l,prev,T,H=>∃v eff rd,Rob P N ops o T H v eff rd/\(∀e∈eff,e.1∈rd)/\
   (∀p∈prev,((cG ops.toList).getD k 0).testBit p.1=true\/((∀id∈p.2.2,id∉rd)/\∀e∈eff,e.1∉p.2.1))/\
   gU P N ops Q (k+1) l (prev++ [(k,rd,eff.map (·.1))]) (bT T o.dst v) (kW H eff)
section
variable{P:Program}{N nb:Nat}{ops:Array Oper}{Q:dG}
theorem DV{x:aD×aC}:∀(l:List Oper) (k:Nat) (prev:fD) (S0:List qY),S0.length=k->S0.map (·.o)++l=ops.toList->
  (∀(i:Nat) (s:qY),S0[i]? =some s->Rob P N ops s.o (cO (λj=>decide (j<i)) 0 S0 x).1 (cO (λj=>decide (j<i)) 0 S0 x).2 s.v s.eff s.rd)->
  (∀s∈S0,∀e∈s.eff,e.1∈s.rd)->
  (∀(i j:Nat) (s s':qY),i<j->S0[i]? =some s->S0[j]? =some s'->((cG ops.toList).getD j 0).testBit i=true\/((∀e∈s.eff,e.1∉s'.rd)/\∀e∈s'.eff,e.1∉s.rd))->
  (∀(i:Nat) (s:qY),S0[i]? =some s->(i,s.rd,s.eff.map (·.1))∈prev)->
  gU P N ops Q k l prev (cO (λ_=>true) 0 S0 x).1 (cO (λ_=>true) 0 S0 x).2->
  ∃S,aFm P N ops S x/\Q .normal (cO (λ_=>true) 0 S x).1 (cO (λ_=>true) 0 S x).2
 | [],k,prev,S0,hk,ho,h1,h2,h3,h4,hd=>⟨S0,⟨by simpa using ho,h1,h2,h3⟩,hd⟩
 |o::l,k,prev,S0,hk,ho,h1,h2,h3,h4,hd=>by
  obtain⟨v,eff,rd,hr,how,hap,hd'⟩:=hd
  let s:qY:=⟨o,v,eff,rd⟩
  have hpre:∀i,i<=k->cO (λj=>decide (j<i)) 0 (S0++ [s]) x=cO (λj=>decide (j<i)) 0 S0 x:=by
   intro i hi;rw[nF];exact rM _ _ _ (λj hj=>by simp at hj;subst hj;simp;omega)
  have hfull:cO (λj=>decide (j<k)) 0 S0 x=cO (λ_=>true) 0 S0 x:=gC S0 0 x (λj hj=>by simp;omega);have hext:cO (λ_=>true) 0 (S0++ [s]) x=s.app (cO (λ_=>true) 0 S0 x):=by
   rw[nF];rfl
  refine DV l (k+1) (prev++ [(k,rd,eff.map (·.1))]) (S0++ [s]) (by simp[hk]) (by simpa using ho) ?_ ?_ ?_ ?_ ?_
  ·intro i s' hs'
   by_cases hi:i<k
   ·rw[aQt z8]at hs';rw[hpre i z8];exact h1 i s' hs'
   ·have hik:i=k:=by have:=lG hs';simp[hk]at this;omega
    subst hik;rw[aQu z8,hk]at hs';simp at hs';subst hs';rw[hpre i (aQj _),hfull];exact hr
  ·intro s' hs';rcases aRp.1 hs' with hs'|hs'
   ·exact h2 s' hs'
   ·simp at hs';subst hs';exact how
  ·intro i j s1 s2 hij hs1 hs2;have hi:i<k:=by have:=lG hs2;simp[hk]at this;omega
   rw[aQt z8]at hs1
   by_cases hj:j<k
   ·rw[aQt z8]at hs2;exact h3 i j s1 s2 hij hs1 hs2
   ·have hjk:j=k:=by have:=lG hs2;simp[hk]at this;omega
    subst hjk;rw[aQu z8,hk]at hs2;simp at hs2;subst hs2;rcases hap _ (h4 i s1 hs1)with h|h
    ·exact .inl h
    ·refine .inr ⟨λe he=>h.1 _ (aRn.2 ⟨e,he,rfl⟩),h.2⟩
  ·intro i s' hs'
   by_cases hi:i<k
   ·rw[aQt z8]at hs';exact aRp.2 (.inl (h4 i s' hs'))
   ·have hik:i=k:=by have:=lG hs';simp[hk]at this;omega
    subst hik;rw[aQu z8,hk]at hs';simp at hs';subst hs';exact aRp.2 (.inr (by simp[s]))
  ·rw[hext];exact hd'
theorem aCr{c:Code}{T:aD}{H:aC}(h:dY P N nb c Q T (H++ [.unborn])):dY P N nb c Q T H:=by
 intro E a ho hH ht;have:=h E.ext a ho.ext (by simp[aE.ext,hH]) (ht.mono E.ext_view_le);exact wp_mono this λe a w hl=>eY (E.ext_le.leN nb) (λ_ _ _ q=>q) hl
theorem BL{c:Code}{T:aD}:∀(m:Nat) {H:aC},dY P N nb c Q T (H++aQ3 m .unborn)->dY P N nb c Q T H
 |0,H,h=>by simpa using h
 |m+1,H,h=>aCr (BL m (by simpa[List.replicate_succ]using h))
def mA(P:Program)(l:List Oper):Bool:=P.follows .mixedOrders&&kM l&&mD l (cG l)
theorem iK{id:Nat}{ops:Array Oper}{T:aD}{H:aC}(m:Nat)(hok:mA P ops.toList=true)(h:gU P N ops Q 0 ops.toList [] T (H++aQ3 m .unborn)):dY P N nb (.region id ops true) Q T H:=by
 refine BL m ?_;unfold mA at hok;simp only[aQd]at hok;obtain⟨S,tr,hQ⟩:=DV (x:=(T,H++aQ3 m .unborn)) ops.toList 0 [] [] rfl z6 (λi s h=>by simp at h) (λs h=>by simp at h) (λi j s s' _ h=>by simp at h) (λi s h=>by simp at h) h;intro E a ho hH ht;refine wp_region_draw λt=> ?_;rw[hok.1.1];simp only[Region.schedule,Bool.true_or,if_true,Region.linearise,aBo,List.reverse_nil,aRy];have hrun:cO (λj=>(Array.replicate ops.size false).getD j false) 0 S (T,H++aQ3 m .unborn)=(T,H++aQ3 m .unborn):=by
  refine rM S 0 _ (λj hj=> ?_);rw[aQm]
  by_cases h:0+j<ops.size
  ·rw[aQr (by simpa using h)];simp
  ·rw[Array.getElem?_eq_none (by simp;omega)];rfl
 refine VO hok.1.2 hok.2 tr hQ E ops.size t (Array.replicate ops.size false) E.drew a z6 ?_ ?_ (E.drew_le.leN nb) ho.drew ?_ ?_
 ·refine aQk (List.length_filter_le _ _) z6
 ·intro j o hj hl;rw[aQm]at hl
  by_cases h:j<ops.size
  ·rw[aQr (by simpa using h)]at hl;simp at hl
  ·rw[Array.getElem?_eq_none (by simp;omega)]at hl;cases hl
 ·rw[hrun];exact hH
 ·rw[hrun];exact ht
theorem wW{fl:List (Nat×TI)}{T T':aD}:∀(ps:List (Nat×Operand)) (cs:List PV),(∀x∈ps,bO T' x.2=bO T x.2)->nN fl T' cs ps=nN fl T cs ps
 | [],cs,_=>rfl
 | (f,x)::ps,cs,h=>by
  unfold nN;rw[h (f,x) z6]
  split
  ·split
   ·exact wW ps _ (λy hy=>h y (by simp[hy]))
   ·rfl
  ·rfl
theorem rA{i:TI}{T T':aD}:∀(ps:List (Nat×Operand)) (cs:List PV),(∀x∈ps,bO T' x.2=bO T x.2)->eN i T' cs ps=eN i T cs ps
 | [],cs,_=>rfl
 | (f,x)::ps,cs,h=>by
  unfold eN;rw[h (f,x) z6]
  split
  ·exact rA ps _ (λy hy=>h y (by simp[hy]))
  ·rfl
theorem AH{T T':aD}{x:Option Operand}(h:∀y,x=some y->bO T' y=bO T y)(n d:Nat):jW T' x n d=jW T x n d:=by
 cases x with
 |none=>rfl
 |some y=>simp only[jW,h y rfl]
theorem IQ{T T':aD}{t:TypeId}{x:PV}{lo hi mx:Option Operand}(h1:∀y,lo=some y->bO T' y=bO T y)(h2:∀y,hi=some y->bO T' y=bO T y)(h3:∀y,mx=some y->bO T' y=bO T y):
  jT P T' t x lo hi mx=jT P T t x lo hi mx:=by
 unfold jT;simp only[λn d=>AH h1 n d,λn d=>AH h2 n d]
 split
 ·rfl
 ·split
  ·split
   ·cases mx with
    |none=>rfl
    |some m=>
     cases hi with
     |none=>rfl
     |some h=>simp only[h3 m rfl,h2 h rfl]
   ·rfl
  ·rfl
 ·rfl
theorem DF{fresh:Nat}{T T':aD}{H:aC}{b:Builtin}{xs:List Operand}{ts:List TypeId}(h:∀x∈xs,bO T' x=bO T x):dO P fresh T' H b xs ts=dO P fresh T H b xs ts:=by
 unfold dO
 split
 ·simp only[h _ (aRz.2 rfl)]
 ·rename_i x y;simp only[h x z6,h y z6]
 ·rename_i x y;simp only[h x z6,h y z6]
 ·rename_i x y t u;simp only[h x z6,h y z6]
 ·rfl
theorem GZ{mt:Bool}{fresh:Nat}{T T':aD}{H:aC}{o:Op}(h:∀x∈o.operands.toList,bO T' x=bO T x):eW P mt fresh T' H o=eW P mt fresh T H o:=by
 cases o with
 |pick c a b=>simp only[eW,h c (by simp[Op.operands]),h a (by simp[Op.operands]),h b (by simp[Op.operands])]
 |build t ps=>
  simp only[eW];congr 1;funext fl;congr 1;funext z
  split
  ·rfl
  ·rw[wW ps.toList z.cells (λx hx=>h x.2 (by simp only[Op.operands];exact aRn.2 ⟨x,hx,rfl⟩))]
 |buildSlice t n ps=>
  simp only[eW];congr 1;funext ei;congr 1;funext z
  split
  ·rw[rA ps.toList _ (λx hx=>h x.2 (by simp only[Op.operands];exact aRn.2 ⟨x,hx,rfl⟩))]
  ·rfl
 |makeFunc f first caps=>
  simp only[eW];have e1:(first.toList.map λx=>(bO T' x).drop1)=first.toList.map λx=>(bO T x).drop1:=List.map_congr_left λx hx=>by rw[h x (by simp only[Op.operands];simp;left;simpa using hx)]
  have e2:(caps.toList.map λx=>(bO T' x).drop1)=caps.toList.map λx=>(bO T x).drop1:=List.map_congr_left λx hx=>by rw[h x (by simp only[Op.operands];simp;right;simpa using hx)]
  rw[e1,e2]
 |slice t x lo hi mx=>
  simp only[eW];rw[h x (by simp[Op.operands]),IQ (λy e=>h y (by subst e;simp[Op.operands])) (λy e=>h y (by subst e;simp[Op.operands])) (λy e=>h y (by subst e;simp[Op.operands]))]
 |call c=>
  simp only[eW]
  split
  ·rename_i b hb;exact DF (λx hx=>h x (by simp only[Op.operands,Call.operands,hb];simpa using hx))
  ·rfl
 |store t a v=>simp only[eW,h a (by simp[Op.operands]),h v (by simp[Op.operands])]
 |binOp op t a v u=>simp only[eW,h a (by simp[Op.operands]),h v (by simp[Op.operands])]
 |indexAddr t a v=>simp only[eW,h a (by simp[Op.operands]),h v (by simp[Op.operands])]
 |index t a v=>simp only[eW,h a (by simp[Op.operands]),h v (by simp[Op.operands])]
 |makeSlice t a v=>simp only[eW,h a (by simp[Op.operands]),h v (by simp[Op.operands])]
 |lookup t a v ok=>simp only[eW,h a (by simp[Op.operands]),h v (by simp[Op.operands])]
 |mapUpdate t a v y=>simp only[eW,h a (by simp[Op.operands]),h v (by simp[Op.operands]),h y (by simp[Op.operands])]
 |makeMap t r=>cases r<;>rfl
 |move x=>simp only[eW,h x (by simp[Op.operands])]
 |assign x=>simp only[eW,h x (by simp[Op.operands])]
 |box t x=>simp only[eW,h x (by simp[Op.operands])]
 |load t x=>simp only[eW,h x (by simp[Op.operands])]
 |nilCheck x=>simp only[eW,h x (by simp[Op.operands])]
 |unOp t u x=>simp only[eW,h x (by simp[Op.operands])]
 |convert t u x=>simp only[eW,h x (by simp[Op.operands])]
 |fieldAddr t x u=>simp only[eW,h x (by simp[Op.operands])]
 |field t x u=>simp only[eW,h x (by simp[Op.operands])]
 |extract x u=>simp only[eW,h x (by simp[Op.operands])]
 |_=>rfl
def mI(T:aD):Op->List Nat
 | .load _ x=>match bO T x with| .optr id _=> [id]|_=> []
 | .store _ x _=>match bO T x with| .optr id _=> [id]|_=> []
 | .lookup _ x _ _=>match bO T x with| .mapp id=> [id]|_=> []
 | .mapUpdate _ x _ _=>match bO T x with| .mapp id=> [id]|_=> []
 | .call c=>match c.callee with
  | .builtin .append=>match c.args.toList with
   |x::_=>match bO T x with| .slice _ (.tok id)=> [id]|_=> []
   | []=> []
  |_=> []
 |_=> []
theorem YJ{mt:Bool}{fresh:Nat}{T:aD}{H H':aC}{o:Op}(h:∀id∈mI T o,H'[id]? =H[id]?):eW P mt fresh T H' o=eW P mt fresh T H o:=by
 cases o with
 |load t x=>
  simp only[eW];have:∀i,iB i H' (bO T x)=iB i H (bO T x):=by
   intro i;unfold iB
   split
   ·rename_i id off hq;rw[h id (by simp[mI,hq])]
   ·rfl
   ·rfl
  simp only[this]
 |lookup t x k ok=>
  simp only[eW];have:kF P H' t (bO T x) (bO T k) ok=kF P H t (bO T x) (bO T k) ok:=by
   unfold kF
   split
   ·rename_i id n hq _;rw[h id (by simp[mI,hq])]
   ·rfl
  rw[this]
 |mapUpdate t x k y=>
  simp only[eW];have:lO P H' t (bO T x) (bO T k) (bO T y)=lO P H t (bO T x) (bO T k) (bO T y):=by
   unfold lO
   split
   ·rename_i id n hq _;rw[h id (by simp[mI,hq])]
   ·rfl
  rw[this]
 |makeMap t r=>cases r<;>rfl
 |store t x y=>
  simp only[eW];have:∀i,mP i H' (bO T x) (bO T y)=mP i H (bO T x) (bO T y):=by
   intro i;unfold mP
   split
   ·rename_i id off hq;rw[h id (by simp[mI,hq])]
   ·rfl
  simp only[this]
 |call c=>
  simp only[eW]
  split
  ·rename_i b hb;unfold dO
   split
   ·rfl
   ·rfl
   ·rfl
   ·rename_i x y t u hxs hts;have:∀i,eH i fresh H' (bO T x) (bO T y)=eH i fresh H (bO T x) (bO T y):=by
     intro i;unfold eH
     split
     ·rename_i es tl xs tlx hq1 hq2
      split
      ·rfl
      ·split
       ·split
        ·rfl
        ·rename_i id;rw[h id (by simp[mI,hb,hxs,hq1])]
        ·rfl
       ·rfl
     ·rfl
    simp only[this]
   ·rfl
  ·rfl
 |_=>rfl
def CF(e:pH):List (Nat×AObj):=e.toList
theorem aEo(e:pH)(H:aC):e.app H=kW H (CF e):=by cases e<;>rfl
theorem TG{l:List Oper}{o:Oper}{t:Nat}(h:Operand.tmp t∈o.op.operands.toList):t∈pV l o:=by
 unfold pV;refine aRp.2 (.inl ?_);rw[List.mem_filterMap];exact⟨_,h,rfl⟩
theorem oE{l:List Oper}{o:Oper}{T T':aD}(h:∀t∈pV l o,T' t=T t):∀x∈o.op.operands.toList,bO T' x=bO T x:=by
 intro x hx;cases x with
 |tmp t=>exact h t (TG hx)
 |_=>rfl
theorem iH{o:Oper}{T T':aD}{b:Bool}(h:∀t∈pV ops.toList o,T' t=T t)(hw:aV ops.toList T N o=some b):aV ops.toList T' N o=some b:=by
 unfold aV at hw⊢
 split
 ·rename_i hg;rw[hg]at hw;exact hw
 ·rename_i j want hg;rw[hg]at hw;simp only at hw
  split
  ·rename_i d hd;rw[hd]at hw;simp only at hw;have:d∈pV ops.toList o:=by unfold pV;rw[hg];simp only[hd];simp
   rw[h d this];exact hw
  ·rename_i hd;rw[hd]at hw;exact hw
theorem wH{k:Nat}{prev:fD}{T:aD}{H:aC}(h:Q .normal T H):gU P N ops Q k [] prev T H:=h
theorem SQ{k:Nat}{o:Oper}{l:List Oper}{prev:fD}{T:aD}{H:aC}(mt:Bool)(fresh:Nat){v:PV}{e:pH}(hw:aV ops.toList T N o=some true)(hok:cH N o.op=true)
  (hv:eW P mt fresh T H o.op=some (v,e)) (hfr:∀ob,e=some (fresh,ob)->H[fresh]? =some .unborn) {H':aC} (hH':kW H (CF e)=H') {rd:List Nat} (hrd:mI T o.op++(CF e).map (·.1)=rd)
  (hap:∀p∈prev,((cG ops.toList).getD k 0).testBit p.1=true\/((∀id∈p.2.2,id∉rd)/\∀e'∈CF e,e'.1∉p.2.1))
  (h:gU P N ops Q (k+1) l (prev++ [(k,rd,(CF e).map (·.1))]) (bT T o.dst v) H'):gU P N ops Q k (o::l) prev T H:=by
 subst hH';refine⟨v,CF e,rd, ?_, ?_,hap,h⟩
 ·intro T' H' hT hHd hlen E a ho hE ht;refine .inr ⟨cJ ht (iH hT hw),λnext Q hn=> ?_⟩;have hv':eW P mt fresh T' H' o.op=some (v,e):=by
   rw[GZ (oE hT),YJ (H:=H),hv];intro id hid;exact hHd id (by rw[<-hrd];exact aRp.2 (.inl hid))
  subst hE;obtain⟨E',val,h1,h2,h3,h4,h5⟩:=rV ho ht hok hv' (λob he=>by
   rw[hHd fresh (by rw[<-hrd,he];simp[CF])];exact hfr ob he)
  rw[aEo]at h4;have:=hn E' val h2 h3 h4 h5;unfold Oper.wp;rcases h1 with h1| ⟨h1,rfl⟩
  ·rw[h1];exact this
  ·rw[h1];exact this
 ·intro e' he';rw[<-hrd];exact aRp.2 (.inr (aRn.2 ⟨e',he',rfl⟩))
theorem TW{k:Nat}{o:Oper}{l:List Oper}{prev:fD}{T:aD}{H:aC}(hw:aV ops.toList T N o=some false)
  (h:gU P N ops Q (k+1) l (prev++ [(k,[],[])]) (bT T o.dst .junk) H):gU P N ops Q k (o::l) prev T H:=
 ⟨.junk,[],[],λT' H' hT _ _ E a ho hE ht=>.inl ⟨cJ ht (iH hT hw),rfl, .inl rfl⟩,z6,λp _=>.inr ⟨z6,z6⟩,h⟩
theorem uP{k:Nat}{o:Oper}{l:List Oper}{prev:fD}{T:aD}{H:aC}{fo:Operand}{xs:Array Operand}{ts:Array TypeId}(hop:o.op= .call ⟨.value fo,xs,ts⟩)(hw:aV ops.toList T N o=some true)(hok:cH N o.op=true)
  {f:FuncId} {pf pc:List PV} (hf:bO T fo= .fn (.func f) pf pc) (hgo:aR P f=true) {args:List PV} (hargs:pf++(xs.toList.map λx=>(bO T x).drop1)++pc=args) {r:PV} {eff:List (Nat×AObj)} {rd:List Nat}
  (hown:∀e∈eff,e.1∈rd) (hc:∀H':aC,(∀id∈rd,H'[id]? =H[id]?)->H'.length=H.length->aL P f args H' λr' H''=>r'=r/\H''=kW H' eff)
  (hap:∀p∈prev,((cG ops.toList).getD k 0).testBit p.1=true\/((∀id∈p.2.2,id∉rd)/\∀e'∈eff,e'.1∉p.2.1))
  (h:gU P N ops Q (k+1) l (prev++ [(k,rd,eff.map (·.1))]) (bT T o.dst r) (kW H eff)):gU P N ops Q k (o::l) prev T H:=by
 refine⟨r,eff,rd, ?_,hown,hap,h⟩;intro T' H' hT hHd hlen E a ho hE ht;refine .inr ⟨cJ ht (iH hT hw),λnext Q hn=> ?_⟩;have hag:=oE hT;have hall:∀x∈o.op.operands.toList,aQ N x=true:=λx hx=>aRo.1 hok x hx;rw[hop]at hall hag;simp only[Op.operands,Call.operands]at hall hag;have hr:=aO ht fo (hall fo z6);rw[hag fo z6,hf]at hr;obtain⟨first,caps,hval,h1,h2⟩:∃first caps,a.eval fo= .func (.func f) first caps/\RL E.view first pf/\RL E.view caps pc:=by
  generalize a.eval fo=y at hr;cases hr with
  |fn _ first caps _ _ hf hc hrf hrc=>exact⟨first,caps,rfl,⟨hf,hrf⟩,⟨hc,hrc⟩⟩
 have h3:=CE ht xs (aRo.2 λx hx=>hall x (by simp;right;simpa using hx));have e3:(xs.toList.map λx=>(bO T' x).drop1)=xs.toList.map λx=>(bO T x).drop1:=List.map_congr_left λx hx=>by rw[hag x (by simp;right;simpa using hx)]
 rw[e3]at h3;have hrl:=mH (mH h1 h3) h2;rw[hargs]at hrl;have hrun:(execOp a.eval o).run P E.w= .ok (.enter f (first++xs.map a.eval++caps)) E.w:=by
  unfold execOp;rw[hop];simp only[resolve,hval,Deferred.ofValue,aQ1,aQ4,aQ2,invoke,rY hgo]
 unfold Oper.wp;rw[hrun];refine(hc H' hHd hlen E _ ho hE hrl).mono ?_;rintro e w' ⟨E',v,r',rfl,rfl,h5,h6,h7,rfl,h8⟩;exact hn E' v h5 h6 h8 h7
end
end Go.Abs
