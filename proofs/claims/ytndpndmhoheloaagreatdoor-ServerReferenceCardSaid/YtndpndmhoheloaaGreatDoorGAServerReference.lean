/- Part 2 of a proof of the law ServerReference: Go data as trees, the walks of the functions that the law reaches, the plain laws. -/
import Derived.Tactics
import Derived.Laws.Cells
import Derived.Below
import Derived.ChangeKeysEq
import Derived.Laws.StructEq
open List renaming all_cons->aMi,all_eq_true->aNz,append_nil->aN9,getD_eq_getElem?_getD->aNj,getElem?_append_left->aM0,getElem?_append_right->aM1,getElem?_cons_succ->aM8,getElem?_cons_zero->aNw,getElem?_eq_getElem->aNi,getElem?_eq_none->aM2,getElem?_map->aNg,getElem?_set_ne->aM5,getElem?_set_self->aM4,getElem?_toArray->aNf,getElem_cons_zero->aMn,getElem_map->aMm,getElem_mem->aNq,length_append->aNo,length_cons->aM7,length_drop->aNd,length_map->aMw,length_take->aNe,map_append->aN3,map_cons->aNl,mem_append->aN0,mem_cons->aN2,mem_map->aNy,replicate->aNb,set_append_right->aN4
open Nat renaming add_mul->aNu,add_zero->aNm,le_refl->aMq,le_trans->aMr,lt_of_lt_of_le->aMs,lt_or_ge->aMo,mul_le_mul_right->aNp,sub_self->aNt,zero_add->aNn,zero_le->aNs
open Go.Sem renaming run_bind->aM9,run_pure->aNc
open Array renaming getD_eq_getD_getElem?->aMt,getElem?_eq_getElem->aMy,getElem?_eq_none->aMp,getElem?_setIfInBounds_ne->aMv,getElem?_setIfInBounds_self_of_lt->aMu,getElem?_toList->aNk,length_toList->aMx
open Bool renaming and_eq_true->aMj,eq_iff_iff->aN1,false_eq_true->aNh,not_eq_true'->aMk,not_false->aNx
open Option renaming bind_some->aM3,getD_some->aMz,isSome_some->aNv,map_none->aNr,map_some->aM6
open Go.Result renaming andThen_ok->aNa
set_option linter.unusedSectionVars false
set_option linter.unnecessarySimpa false
set_option linter.unusedVariables false
set_option linter.unusedSimpArgs false
namespace Go
theorem z8{p:Prop}(h:p:=by omega):p:=h
theorem z7{p:Prop}(h:p:=by decide):p:=h
theorem zz{p:Prop}(h:p:=by simp):p:=h
end Go
namespace Go.Abs
inductive bE where
 |none|full|tok (id:Nat)
 deriving DecidableEq
inductive PV where
 |bool (b:Bool)
 |int (k:IntKind) (n:Int)
 |str (s:List UInt8)
 |nilp
 |optr (id off:Nat)
 |iptr (cs:List PV)
 |slice (es:List PV) (tl:bE)
 |msl (id off n c:Nat)
 |fn (f:Fn) (first caps:List PV)
 |nilfn
 |agg (cs:List PV)
 |tup (vs:List PV)
 |mapp (id:Nat)
 |nilmap
 |ifc (o:Option (TypeId×Value))
 |junk
def PV.cells:PV->List PV
 | .agg cs=>cs
 |p=> [p]
def PV.drop0:PV->PV
 | .slice es _=>.slice es .none
 |p=>p
def PV.drop1:PV->PV
 | .slice es _=>.slice es .none
 | .agg cs=>.agg (cs.map PV.drop0)
 |p=>p
structure VH where
 n:Nat
 sz:Nat
 loc : Option (Nat × Nat × Nat)     -- block, end of what is laid, end of the block
structure cG where
 cell:Addr->Option Value
 born:Nat->Prop
 rho:Nat->Nat
 tok:Nat->Option VH
def nQ(V:cG)(tl:bE)(a:Option Addr)(len cap:Nat):Prop:=
 match tl with
 | .none=>True
 | .full=>cap=len
 | .tok id=>V.born id/\∀t,V.tok id=some t->len<=t.n/\
   (len=t.n->(cap=len/\(0<len->∃b off,a=some ⟨b,off,none⟩))\/∃b pos cend off,t.loc=some (b,pos,cend)/\a=some ⟨b,off,none⟩/\off+len*t.sz=pos/\off+cap*t.sz=cend)
inductive aQ(V:cG):Value->PV->Prop
 |bool (b:Bool):aQ V (.bool b) (.bool b)
 |int (k:IntKind) (n:Int):aQ V (.int k n) (.int k n)
 |str (s:ByteArray):aQ V (.string s) (.str s.data.toList)
 |nilp:aQ V (.pointer none) .nilp
 |optr (id off:Nat) (h:V.born id):aQ V (.pointer (some ⟨V.rho id,off,none⟩)) (.optr id off)
 |iptr (a:Addr) (cs:List PV) (vs:Nat->Value)
   (hc:∀j,j<cs.length->V.cell (a.add j)=some (vs j))
   (hr:∀j (h:j<cs.length),aQ V (vs j) cs[j]):aQ V (.pointer (some a)) (.iptr cs)
 |nils (tl:bE) (ht:nQ V tl none 0 0):aQ V (.slice none 0 0) (.slice [] tl)
 |slice (a:Addr) (len cap sz:Nat) (es:List PV) (tl:bE) (vs:Nat->Nat->Value)
   (hlen:es.length=len) (hcap:len<=cap) (hmax:cap<=maxLen)
   (hsz:∀i (h:i<es.length),(es[i].cells).length=sz)
   (hc:∀i j,i<len->j<sz->V.cell (a.add (i*sz+j))=some (vs i j))
   (hr:∀i j (hi:i<es.length) (hj:j<(es[i].cells).length),aQ V (vs i j) ((es[i].cells)[j]))
   (ht:nQ V tl (some a) len cap):aQ V (.slice (some a) len cap) (.slice es tl)
 |msl (id off n c:Nat) (h:V.born id) (hmax:c<=maxLen):aQ V (.slice (some ⟨V.rho id,off,none⟩) n c) (.msl id off n c)
 |fn (f:Fn) (first caps:Array Value) (pf pc:List PV) (hf:first.size=pf.length) (hc:caps.size=pc.length)
   (hrf:∀i (h:i<pf.length),aQ V (first.getD i undef) pf[i])
   (hrc:∀i (h:i<pc.length),aQ V (caps.getD i undef) pc[i]):aQ V (.func f first caps) (.fn f pf pc)
 |nilfn:aQ V .nilFunc .nilfn
 |agg (arr:Array Value) (cs:List PV) (hl:arr.size=cs.length)
   (hr:∀i (h:i<cs.length),aQ V (arr.getD i undef) cs[i]):aQ V (.agg arr) (.agg cs)
 |tup (arr:Array Value) (cs:List PV) (hl:arr.size=cs.length)
   (hr:∀i (h:i<cs.length),aQ V (arr.getD i undef) cs[i]):aQ V (.tuple arr) (.tup cs)
 |mapp (id:Nat) (h:V.born id):aQ V (.map (some (V.rho id))) (.mapp id)
 |nilmap:aQ V (.map none) .nilmap
 |nili:aQ V .nilIface (.ifc none)
 |ifc (t:TypeId) (v:Value):aQ V (.iface t v) (.ifc (some (t,v)))
 |junk (v:Value):aQ V v .junk
structure cG.le(V V':cG):Prop where
 cell:∀a v,V.cell a=some v->V'.cell a=some v
 born:∀id,V.born id->V'.born id
 rho:∀id,V.born id->V'.rho id=V.rho id
 tok:∀id t',V.born id->V'.tok id=some t'->∃t,V.tok id=some t/\(t'=t\/t.n<t'.n)
theorem cG.le.refl(V:cG):V.le V:=⟨λ_ _ h=>h,λ_ h=>h,λ_ _=>rfl,λ_ t' _ h=>⟨t',h, .inl rfl⟩⟩
theorem cG.le.trans{A B C:cG}(h:A.le B)(k:B.le C):A.le C:=
 ⟨λa v x=>k.cell a v (h.cell a v x),λid x=>k.born id (h.born id x),
  λid x=>(k.rho id (h.born id x)).trans (h.rho id x),
  λid t' hb ht=>by
  obtain⟨t,h1,h2⟩:=k.tok id t' (h.born id hb) ht;obtain⟨t0,h3,h4⟩:=h.tok id t hb h1;refine⟨t0,h3, ?_⟩;rcases h2 with rfl|h2
  ·exact h4
  ·rcases h4 with rfl|h4
   ·exact .inr h2
   ·exact .inr z8⟩
theorem nQ.mono{V V':cG}(h:V.le V'){tl a len cap}(ht:nQ V tl a len cap):nQ V' tl a len cap:=by
 cases tl with
 |none=>trivial
 |full=>exact ht
 |tok id=>
  obtain⟨hb,ht⟩:=ht;refine⟨h.born id hb,λt' e=> ?_⟩;obtain⟨t,e',h'⟩:=h.tok id t' hb e;have:=ht t e';rcases h' with rfl|h'
  ·exact this
  ·exact⟨z8,λq=>z8⟩
theorem aQ.mono{V V':cG}(h:V.le V'){v:Value}{p:PV}(r:aQ V v p):aQ V' v p:=by
 induction r with
 |bool b=>exact .bool b
 |int k n=>exact .int k n
 |str s=>exact .str s
 |nilp=>exact .nilp
 |optr id off hb=>rw[<-h.rho id hb];exact .optr id off (h.born id hb)
 |iptr a cs vs hc _ ih=>exact .iptr a cs vs (λj hj=>h.cell _ _ (hc j hj)) ih
 |nils tl ht=>exact .nils tl (ht.mono h)
 |slice a len cap sz es tl vs hlen hcap hmax hsz hc _ ht ih=>
  exact .slice a len cap sz es tl vs hlen hcap hmax hsz (λi j hi hj=>h.cell _ _ (hc i j hi hj)) ih (ht.mono h)
 |msl id off n c hb hm=>rw[<-h.rho id hb];exact .msl id off n c (h.born id hb) hm
 |fn f first caps pf pc hf hc _ _ ih1 ih2=>exact .fn f first caps pf pc hf hc ih1 ih2
 |nilfn=>exact .nilfn
 |agg arr cs hl _ ih=>exact .agg arr cs hl ih
 |tup arr cs hl _ ih=>exact .tup arr cs hl ih
 |mapp id hb=>rw[<-h.rho id hb];exact .mapp id (h.born id hb)
 |nilmap=>exact .nilmap
 |nili=>exact .nili
 |ifc t v=>exact .ifc t v
 |junk v=>exact .junk v
theorem aQ.drop0{V:cG}{v:Value}{p:PV}(r:aQ V v p):aQ V v p.drop0:=by
 cases r with
 |nils tl ht=>exact .nils .none trivial
 |slice a len cap sz es tl vs hlen hcap hmax hsz hc hr ht=>exact .slice a len cap sz es .none vs hlen hcap hmax hsz hc hr trivial
 |bool b=>exact .bool b
 |int k n=>exact .int k n
 |str s=>exact .str s
 |nilp=>exact .nilp
 |optr id off hb=>exact .optr id off hb
 |iptr a cs vs hc hr=>exact .iptr a cs vs hc hr
 |msl id off n c hb hm=>exact .msl id off n c hb hm
 |fn f first caps pf pc hf hc h1 h2=>exact .fn f first caps pf pc hf hc h1 h2
 |nilfn=>exact .nilfn
 |agg arr cs hl hr=>exact .agg arr cs hl hr
 |tup arr cs hl hr=>exact .tup arr cs hl hr
 |mapp id hb=>exact .mapp id hb
 |nilmap=>exact .nilmap
 |nili=>exact .nili
 |ifc t v=>exact .ifc t v
 |junk v=>exact .junk v
theorem aQ.drop1{V:cG}{v:Value}{p:PV}(r:aQ V v p):aQ V v p.drop1:=by
 cases r with
 |nils tl ht=>exact .nils .none trivial
 |slice a len cap sz es tl vs hlen hcap hmax hsz hc hr ht=>exact .slice a len cap sz es .none vs hlen hcap hmax hsz hc hr trivial
 |bool b=>exact .bool b
 |int k n=>exact .int k n
 |str s=>exact .str s
 |nilp=>exact .nilp
 |optr id off hb=>exact .optr id off hb
 |iptr a cs vs hc hr=>exact .iptr a cs vs hc hr
 |msl id off n c hb hm=>exact .msl id off n c hb hm
 |fn f first caps pf pc hf hc h1 h2=>exact .fn f first caps pf pc hf hc h1 h2
 |nilfn=>exact .nilfn
 |agg arr cs hl hr=>exact .agg arr _ (by simpa using hl) λi h=>by simp only[aMm];exact(hr i (by simpa using h)).drop0
 |tup arr cs hl hr=>exact .tup arr cs hl hr
 |mapp id hb=>exact .mapp id hb
 |nilmap=>exact .nilmap
 |nili=>exact .nili
 |ifc t v=>exact .ifc t v
 |junk v=>exact .junk v
theorem aQ.cells{V:cG}{v:Value}{p:PV}(r:aQ V v p)(hj:p≠ .junk):
  v.cells.size=p.cells.length/\∀i (h:i<p.cells.length),aQ V (v.cells.getD i undef) (p.cells[i]):=by
 cases r with
 |agg arr cs hl hr=>exact⟨hl,hr⟩
 |junk v=>exact(hj rfl).elim
 |_=>
  refine⟨rfl,λi h=> ?_⟩;simp only[PV.cells,List.length_singleton]at h;obtain rfl:i=0:=z8
  simp only[PV.cells,Value.cells,aMn]
  first
   |exact .bool _|exact .int _ _|exact .str _|exact .nilp|exact .optr _ _ ‹_› |exact .iptr _ _ _ ‹_› ‹_› |exact .nils _ ‹_›
   |exact .slice _ _ _ _ _ _ _ ‹_› ‹_› ‹_› ‹_› ‹_› ‹_› ‹_› |exact .msl _ _ _ _ ‹_› ‹_› |exact .fn _ _ _ _ _ ‹_› ‹_› ‹_› ‹_› |exact .nilfn
   |exact .tup _ _ ‹_› ‹_› |exact .mapp _ ‹_› |exact .nilmap|exact .nili|exact .ifc _ _
inductive rA where
 |iter (s:List UInt8) (pos:Nat)
 |mapo (es:List (Int×PV))
 |miter (im n:Nat) (seen:List Nat)
 |mapg (es:List (Nat×(Int×Int×Int)×PV)) (clk:Nat)
 |mitg (im clk:Nat) (seen:List Nat)
def mZ(V:cG):List MapEntry->List (Int×PV)->Prop
 | [],[]=>True
 |m::ms,e::es=>m.key= .int .i64 e.1/\aQ V m.val e.2/\mZ V ms es
 |_,_=>False
def fU(k:Int×Int×Int):Value:=.agg #[.int .i64 k.1, .int .i64 k.2.1, .int .i64 k.2.2]
def kH(V:cG):List MapEntry->List (Nat×(Int×Int×Int)×PV)->Prop
 | [],[]=>True
 |m::ms,e::es=>m.born=e.1/\m.key=fU e.2.1/\aQ V m.val e.2.2/\kH V ms es
 |_,_=>False
structure VW(es:List (Nat×(Int×Int×Int)×PV))(clk:Nat):Prop where
 born:(es.map (·.1)).Pairwise (· < ·)
 lt:∀e∈es,e.1<clk
 keys:(es.map (·.2.1)).Nodup
def OR(V:cG):rA->Obj->Prop
 | .iter s pos,o=>∃z:ByteArray,o= .stringIter z pos/\z.data.toList=s
 | .mapo es,o=>∃(ms:List MapEntry) (clock:Nat),o= .map ms.toArray clock/\mZ V ms es/\clock=ms.length/\ms.map (·.born)=List.range ms.length/\(es.map (·.1)).Nodup
 | .miter im n seen,o=>V.born im/\o= .mapIter (some (V.rho im)) n seen.toArray n
 | .mapg es clk,o=>∃ms:List MapEntry,o= .map ms.toArray clk/\kH V ms es/\VW es clk
 | .mitg im clk seen,o=>V.born im/\o= .mapIter (some (V.rho im)) clk seen.toArray clk
theorem mZ.imp{V V':cG}:∀ {ms:List MapEntry} {es:List (Int×PV)},(∀v,∀e∈es,aQ V v e.2->aQ V' v e.2)->mZ V ms es->mZ V' ms es
 | [],[],_,h=>trivial
 |m::ms,e::es,hv,h=>⟨h.1,hv _ e zz h.2.1,mZ.imp (λv x hx=>hv v x (by simp[hx])) h.2.2⟩
 | [],_::_,_,h=>h.elim
 |_::_,[],_,h=>h.elim
theorem kH.imp{V V':cG}:∀ {ms:List MapEntry} {es:List (Nat×(Int×Int×Int)×PV)},(∀v,∀e∈es,aQ V v e.2.2->aQ V' v e.2.2)->kH V ms es->kH V' ms es
 | [],[],_,h=>trivial
 |m::ms,e::es,hv,h=>⟨h.1,h.2.1,hv _ e zz h.2.2.1,kH.imp (λv x hx=>hv v x (by simp[hx])) h.2.2.2⟩
 | [],_::_,_,h=>h.elim
 |_::_,[],_,h=>h.elim
theorem OR.mono{V V':cG}(h:V.le V'){k:rA}{o:Obj}(r:OR V k o):OR V' k o:=by
 cases k with
 |iter s pos=>exact r
 |mapo es=>
  obtain⟨ms,c,rfl,h1,h2⟩:=r;exact⟨ms,c,rfl,h1.imp λv e _ hv=>hv.mono h,h2⟩
 |miter im n seen=>exact⟨h.born im r.1,by rw[r.2,h.rho im r.1]⟩
 |mapg es c=>
  obtain⟨ms,rfl,h1,h2⟩:=r;exact⟨ms,rfl,h1.imp λv e _ hv=>hv.mono h,h2⟩
 |mitg im n seen=>exact⟨h.born im r.1,by rw[r.2,h.rho im r.1]⟩
theorem OR.cells{V:cG}{k:rA}{arr:Array Value}{e:TypeId}{f:Nat×Nat}(r:OR V k (.cells arr e f)):False:=by
 cases k with
 |iter s pos=>obtain⟨z,h,_⟩:=r;cases h
 |mapo es=>obtain⟨a,c,h,_⟩:=r;cases h
 |miter im n seen=>cases r.2
 |mapg es c=>obtain⟨a,h,_⟩:=r;cases h
 |mitg im n seen=>cases r.2
inductive AObj where
 |unborn
 |row (cs:List PV)
 |buf (n sz:Nat)
 |glob (b:Nat) (vs:List Value)
 |obj (k:rA)
inductive rN where
 |fixed|mut|buf (pos cend:Nat)
def rN.stable:rN->Nat->Bool
 | .fixed,_=>true
 | .mut,_=>false
 | .buf pos _,o=>decide (o<pos)
structure aK where
 w:World
 κ:Nat->rN
 ρ:Nat->Nat
 tb:Nat->Option Nat
 H:List AObj
def pG(H:List AObj)(id:Nat):Prop:=∃o,H[id]? =some o/\o≠ .unborn
def aK.view(E:aK):cG where
 cell a:=if(E.κ a.block).stable a.off then E.w.cell? a else none
 born id:=pG E.H id
 rho:=E.ρ
 tok id:=match E.H[id]? with
  |some (.buf n sz)=>some ⟨n,sz,(E.tb id).bind λb=>match E.κ b with
   | .buf pos cend=>some (b,pos,cend)
   |_=>none⟩
  |_=>none
def aK.ownsRow(E:aK)(b:Nat):Prop:=∃id cs,E.H[id]? =some (.row cs)/\E.ρ id=b
def aK.ownsBuf(E:aK)(b:Nat):Prop:=∃id n sz,E.H[id]? =some (.buf n sz)/\E.tb id=some b
def aK.ownsObj(E:aK)(b:Nat):Prop:=∃id k,E.H[id]? =some (.obj k)/\E.ρ id=b
def aK.owns(E:aK)(b:Nat):Prop:=E.ownsRow b\/E.ownsBuf b\/E.ownsObj b
structure aK.ObjsOk(E:aK):Prop where
 at_:∀id k,E.H[id]? =some (.obj k)->(∃o,E.w.heap[E.ρ id]? =some o/\OR E.view k o)/\E.κ (E.ρ id)= .mut
 inj:∀id id' k k',E.H[id]? =some (.obj k)->E.H[id']? =some (.obj k')->E.ρ id=E.ρ id'->id=id'
theorem aK.ObjsOk.lt{E:aK}(h:E.ObjsOk){id:Nat}{k:rA}(hi:E.H[id]? =some (.obj k)):E.ρ id<E.w.heap.size:=by
 obtain⟨⟨o,h1,_⟩,_⟩:=h.at_ id k hi;rcases aMo (E.ρ id) E.w.heap.size with hl|hl
 ·exact hl
 ·rw[aMp hl]at h1;cases h1
theorem aK.ObjsOk.of{E E':aK}(h:E.ObjsOk)(hv:E.view.le E'.view)(hk:∀id k,E'.H[id]? =some (.obj k)->E.H[id]? =some (.obj k)/\E'.ρ id=E.ρ id/\E'.w.heap[E.ρ id]? =E.w.heap[E.ρ id]? /\E'.κ (E.ρ id)=E.κ (E.ρ id)):E'.ObjsOk:=by
 constructor
 ·intro id k hi;obtain⟨h1,h2,h3,h4⟩:=hk id k hi;obtain⟨⟨o,a1,a2⟩,a3⟩:=h.at_ id k h1;rw[h2,h3,h4];exact⟨⟨o,a1,a2.mono hv⟩,a3⟩
 ·intro id id' k k' h1 h2 e;obtain⟨a1,a2,_⟩:=hk id k h1;obtain⟨b1,b2,_⟩:=hk id' k' h2;rw[a2,b2]at e;exact h.inj id id' k k' a1 b1 e
theorem aK.ownsObj_of{E E':aK}(hk:∀id k,E'.H[id]? =some (.obj k)->E.H[id]? =some (.obj k)/\E'.ρ id=E.ρ id){b:Nat}(h:E'.ownsObj b):E.ownsObj b:=by
 obtain⟨id,k,h1,h2⟩:=h;obtain⟨a1,a2⟩:=hk id k h1;exact⟨id,k,a1,a2.symm.trans h2⟩
structure aK.Ok(E:aK):Prop where
 rows:∀id cs,E.H[id]? =some (.row cs)->∃arr elem,E.w.heap[E.ρ id]? =some (.cells arr elem (0,0))/\arr.size=cs.length/\
  (∀i (h:i<cs.length),aQ E.view (arr.getD i undef) cs[i])/\E.κ (E.ρ id)= .mut
 bufs:∀id n sz b,E.H[id]? =some (.buf n sz)->E.tb id=some b->∃arr elem pos,E.w.heap[b]? =some (.cells arr elem (0,0))/\E.κ b= .buf pos arr.size
 injr:∀id id' cs cs',E.H[id]? =some (.row cs)->E.H[id']? =some (.row cs')->E.ρ id=E.ρ id'->id=id'
 injb:∀id id' n sz n' sz' b,E.H[id]? =some (.buf n sz)->E.H[id']? =some (.buf n' sz')->E.tb id=some b->E.tb id'=some b->id=id'
 globs:∀(id b:Nat) (vs:List Value),E.H[id]? =some (AObj.glob b vs)->∀i (h:i<vs.length),E.view.cell ⟨b,i,none⟩=some vs[i]
 objs:E.ObjsOk
theorem aK.Ok.globs_of{E E':aK}(ho:E.Ok)(hc:∀a v,E.view.cell a=some v->E'.view.cell a=some v)(h:∀(id b:Nat) (vs:List Value),E'.H[id]? =some (AObj.glob b vs)->E.H[id]? =some (.glob b vs)):
  ∀(id b:Nat) (vs:List Value),E'.H[id]? =some (AObj.glob b vs)->∀i (h:i<vs.length),E'.view.cell ⟨b,i,none⟩=some vs[i]:=
 λid b vs hi i hl=>hc _ _ (ho.globs id b vs (h id b vs hi) i hl)
structure aK.le(E E':aK):Prop where
 os:E'.w.os=E.w.os
 tape:E'.w.tape=E.w.tape
 output:E'.w.output=E.w.output
 size:E.w.heap.size<=E'.w.heap.size
 other:∀b,b<E.w.heap.size->¬E.owns b->E'.κ b=E.κ b/\E'.w.heap[b]? =E.w.heap[b]?
 view:E.view.le E'.view
 born:∀b,b<E.w.heap.size->E'.owns b->E.owns b
theorem aK.le.refl(E:aK):E.le E:=⟨rfl,rfl,rfl,aMq _,λ_ _ _=>⟨rfl,rfl⟩, .refl _,λ_ _=>id⟩
theorem aK.le.trans{A B C:aK}(h:A.le B)(k:B.le C):A.le C:=
 ⟨k.os.trans h.os,k.tape.trans h.tape,k.output.trans h.output,aMr h.size k.size,
  λb hb h1=>by
  obtain⟨e1,e2⟩:=h.other b hb h1;obtain⟨e3,e4⟩:=k.other b (aMs hb h.size) (λx=>h1 (h.born b hb x));exact⟨e3.trans e1,e4.trans e2⟩,
  h.view.trans k.view,
  λb hb x=>h.born b hb (k.born b (aMs hb h.size) x)⟩
structure eR(V:cG)(N:Nat)(a:Act)(T:Nat->PV):Prop where
 size:a.tmps.size=N
 defers:a.defers= []
 rel:∀i,i<N->aQ V (a.tmps.getD i undef) (T i)
def upd(T:Nat->PV)(d:Nat)(v:PV):Nat->PV:=λi=>if i=d then v else T i
def bT(T:Nat->PV)(d:Option Nat)(v:PV):Nat->PV:=match d with|some d=>upd T d v|none=>T
theorem eR.mono{V V':cG}{N:Nat}{a:Act}{T:Nat->PV}(h:V.le V')(r:eR V N a T):eR V' N a T:=
 ⟨r.size,r.defers,λi hi=>(r.rel i hi).mono h⟩
theorem eR.put{V:cG}{N:Nat}{a:Act}{T:Nat->PV}(r:eR V N a T)(d:Option Nat){v:Value}{p:PV}(hv:aQ V v p):
  eR V N (a.put d v) (bT T d p):=by
 cases d with
 |none=>exact r
 |some d=>
  refine⟨by simp[Act.put,r.size],r.defers,λi hi=> ?_⟩;simp only[Act.put,bT,upd]
  by_cases h:i=d
  ·subst h;rw[if_pos rfl];rw[aMt,aMu (by rw[r.size];exact hi)];exact hv
  ·rw[if_neg h];have:=r.rel i hi;rw[aMt]at this⊢;rw[aMv z8];exact this
def aW:Value->PV
 | .bool b=>.bool b
 | .int k n=>.int k n
 | .string s=>.str s.data.toList
 | .pointer none=>.nilp
 | .slice none 0 0=>.slice [] .full
 | .nilFunc=>.nilfn
 | .map none=>.nilmap
 | .nilIface=>.ifc none
 | .agg cs=>.agg (cs.toList.map fun
  | .bool b=>.bool b
  | .int k n=>.int k n
  | .string s=>.str s.data.toList
  | .pointer none=>.nilp
  | .slice none 0 0=>.slice [] .full
  | .nilFunc=>.nilfn
  | .map none=>.nilmap
  |_=>.junk)
 |_=>.junk
theorem dP(V:cG)(v:Value):aQ V v (aW v):=by
 unfold aW
 split
 ·exact .bool _
 ·exact .int _ _
 ·exact .str _
 ·exact .nilp
 ·exact .nils _ rfl
 ·exact .nilfn
 ·exact .nilmap
 ·exact .nili
 ·rename_i cs;refine .agg _ _ zz λi h=> ?_;simp only[aMw,aMx]at h;simp only[aMm,Array.getElem_toList];rw[aMt,aMy h,aMz];generalize cs[i]=c
  split
  ·exact .bool _
  ·exact .int _ _
  ·exact .str _
  ·exact .nilp
  ·exact .nils _ rfl
  ·exact .nilfn
  ·exact .nilmap
  ·exact .junk _
 ·exact .junk _
def bS(T:Nat->PV):Operand->PV
 | .tmp t=>T t
 | .const v=>aW v
 | .global _=>.junk
 | .func f=>.fn (.func f) [] []
def aU(N:Nat):Operand->Bool
 | .tmp t=>decide (t<N)
 |_=>true
theorem aN{V:cG}{N:Nat}{a:Act}{T:Nat->PV}(r:eR V N a T)(x:Operand)(hx:aU N x=true):aQ V (a.eval x) (bS T x):=by
 cases x with
 |tmp t=>exact r.rel t (of_decide_eq_true hx)
 |const v=>exact dP V v
 |global g=>exact .junk _
 |func f=>exact .fn _ _ _ _ _ rfl rfl (λi h=>absurd h zz) (λi h=>absurd h zz)
theorem AK(a:Addr)(m n:Nat):(a.add m).add n=a.add (m+n):=by
 unfold Addr.add
 by_cases hm:m=0
 ·subst hm;simp
 ·by_cases hn:n=0
  ·subst hn;simp
  ·have:m+n≠0:=z8
   simp only[if_neg hm,if_neg hn,if_neg this,Nat.add_assoc]
theorem yR(a:Addr):a.add 0=a:=by simp[Addr.add]
theorem dH(b o n:Nat):(⟨b,o,none⟩:Addr).add n=⟨b,o+n,none⟩:=by
 unfold Addr.add
 by_cases hn:n=0
 ·subst hn;simp
 ·simp[hn]
theorem aK.cell_stable{E:aK}{a:Addr}{v:Value}(h:E.view.cell a=some v):E.w.cell? a=some v:=by
 simp only[aK.view]at h
 split at h
 ·exact h
 ·cases h
theorem aK.cell_of{E:aK}{a:Addr}{v:Value}(hs:(E.κ a.block).stable a.off=true)(h:E.w.cell? a=some v):E.view.cell a=some v:=by
 simp only[aK.view,hs,if_true,h]
theorem cell?_lt{w:World}{a:Addr}{v:Value}(h:w.cell? a=some v):a.block<w.heap.size:=by
 unfold World.cell? at h;rcases aMo a.block w.heap.size with hl|hl
 ·exact hl
 ·rw[aMp hl]at h;cases h
theorem lS{α:Type}{l:List α}{i:Nat}{a:α}:(l.set i a).length=l.length:=zz
theorem heap_alloc(w:World)(o:Obj)(b:Nat)(h:b<w.heap.size):(w.alloc o).heap[b]? =w.heap[b]? :=Go.RowKit.Below.heap_alloc w o b h
theorem heap_alloc_new(w:World)(o:Obj):(w.alloc o).heap[w.heap.size]? =some o:=by
 show(w.heap.push o)[w.heap.size]? =_;simp
theorem cell?_congr{w w':World}{a:Addr}(h:w'.heap[a.block]? =w.heap[a.block]?):w'.cell? a=w.cell? a:=by
 unfold World.cell?;rw[h]
theorem DW{H:List AObj}{id:Nat}:pG (H++ [.unborn]) id↔pG H id:=by
 unfold pG;constructor
 ·rintro⟨o,h,ho⟩
  by_cases hl:id<H.length
  ·rw[aM0 hl]at h;exact⟨o,h,ho⟩
  ·rw[aM1 z8]at h;rw[List.getElem?_singleton]at h
   split at h
   ·cases h;exact(ho rfl).elim
   ·cases h
 ·rintro⟨o,h,ho⟩;have hl:id<H.length:=by
   rcases aMo id H.length with hl|hl
   ·exact hl
   ·rw[aM2 hl]at h;cases h
  exact⟨o,by rw[aM0 hl];exact h,ho⟩
theorem cI{H:List AObj}{id:Nat}{o:AObj}(ho:o≠ .unborn):(H++ [.unborn])[id]? =some o↔H[id]? =some o:=by
 constructor
 ·intro h
  by_cases hl:id<H.length
  ·rwa [aM0 hl]at h
  ·rw[aM1 z8]at h;rw[List.getElem?_singleton]at h
   split at h
   ·cases h;exact(ho rfl).elim
   ·cases h
 ·intro h;have hl:id<H.length:=by
   rcases aMo id H.length with hl|hl
   ·exact hl
   ·rw[aM2 hl]at h;cases h
  rw[aM0 hl];exact h
def aK.ext(E:aK):aK:= {E with H:=E.H++ [.unborn]}
theorem aK.ext_view_le(E:aK):E.view.le E.ext.view:=by
 refine⟨λa v h=>h,λid h=>DW.2 h,λ_ _=>rfl,λid t' hb h=>⟨t', ?_, .inl rfl⟩⟩;obtain⟨o,h1,h2⟩:=hb;have e:(E.H++ [.unborn])[id]? =E.H[id]? :=by
  rw[h1];exact(cI h2).2 h1
 simp only[aK.view,aK.ext,e]at h⊢;exact h
theorem aK.ext_le(E:aK):E.le E.ext:=by
 refine⟨rfl,rfl,rfl,aMq _,λ_ _ _=>⟨rfl,rfl⟩,E.ext_view_le,λb _=>Or.imp ?_ (Or.imp ?_ (aK.ownsObj_of (E:=E) (E':=E.ext) λid k h=>⟨(cI zz).1 h,rfl⟩))⟩
 ·rintro⟨id,cs,h,e⟩;exact⟨id,cs,(cI zz).1 h,e⟩
 ·rintro⟨id,n,sz,h,e⟩;exact⟨id,n,sz,(cI zz).1 h,e⟩
theorem aK.Ok.ext{E:aK}(h:E.Ok):E.ext.Ok:=by
 refine⟨?_, ?_, ?_, ?_,h.globs_of E.ext_view_le.cell λid b vs hi=>(cI zz).1 hi,h.objs.of E.ext_view_le λid k hi=>⟨(cI zz).1 hi,rfl,rfl,rfl⟩⟩
 ·intro id cs hi;obtain⟨arr,elem,h1,h2,h3,h4⟩:=h.rows id cs ((cI zz).1 hi);exact⟨arr,elem,h1,h2,λi hl=>(h3 i hl).mono E.ext_view_le,h4⟩
 ·intro id n sz b hi hb;exact h.bufs id n sz b ((cI zz).1 hi) hb
 ·intro id id' cs cs' h1 h2 e;exact h.injr id id' cs cs' ((cI zz).1 h1) ((cI zz).1 h2) e
 ·intro id id' n sz n' sz' b h1 h2 e e';exact h.injb id id' n sz n' sz' b ((cI zz).1 h1) ((cI zz).1 h2) e e'
theorem aK.Ok.rowBlock{E:aK}(h:E.Ok){id cs}(hi:E.H[id]? =some (.row cs)):E.ρ id<E.w.heap.size:=by
 obtain⟨arr,elem,h1,_⟩:=h.rows id cs hi;rcases aMo (E.ρ id) E.w.heap.size with hl|hl
 ·exact hl
 ·rw[aMp hl]at h1;cases h1
theorem aK.Ok.bufBlock{E:aK}(h:E.Ok){id n sz b}(hi:E.H[id]? =some (.buf n sz))(hb:E.tb id=some b):b<E.w.heap.size:=by
 obtain⟨arr,elem,pos,h1,_⟩:=h.bufs id n sz b hi hb;rcases aMo b E.w.heap.size with hl|hl
 ·exact hl
 ·rw[aMp hl]at h1;cases h1
def aK.drew(E:aK):aK:= {E with w:=E.w.drew}
theorem aK.drew_le(E:aK):E.le E.drew:=⟨rfl,rfl,rfl,aMq _,λ_ _ _=>⟨rfl,rfl⟩, .refl _,λ_ _=>id⟩
theorem aK.Ok.drew{E:aK}(h:E.Ok):E.drew.Ok:=⟨h.rows,h.bufs,h.injr,h.injb,h.globs,⟨h.objs.at_,h.objs.inj⟩⟩
def aK.newFixed(E:aK)(o:Obj):aK:=
 {E with w:=E.w.alloc o,κ:=λb=>if b=E.w.heap.size then .fixed else E.κ b}
theorem aK.newFixed_view{E:aK}(h:E.Ok)(o:Obj):E.view.le (E.newFixed o).view:=by
 refine⟨λa v hc=> ?_,λid hb=>hb,λ_ _=>rfl,λid t' hb ht=>⟨t', ?_, .inl rfl⟩⟩
 ·have hw:=aK.cell_stable hc;have hl:=cell?_lt hw;simp only[aK.view]at hc⊢
  split at hc
  ·rename_i hs;have hne:a.block≠E.w.heap.size:=z8
   simp only[aK.newFixed,if_neg hne,hs,if_true];rw[cell?_congr (heap_alloc _ _ _ hl)];exact hc
  ·cases hc
 ·simp only[aK.view,aK.newFixed]at ht⊢
  split at ht
  ·rename_i n sz hi;rw[<-ht];cases htb:E.tb id with
   |none=>rfl
   |some b=>
    have:=h.bufBlock hi htb;have hne:b≠E.w.heap.size:=z8
    simp only[aM3,if_neg hne]
  ·cases ht
theorem aK.newFixed_le{E:aK}(h:E.Ok)(o:Obj):E.le (E.newFixed o):=by
 refine⟨rfl,rfl,rfl,by simp[aK.newFixed],λb hb _=>⟨?_,heap_alloc _ _ _ hb⟩,E.newFixed_view h o,λb hb=>id⟩;have hne:b≠E.w.heap.size:=z8
 simp only[aK.newFixed,if_neg hne]
theorem aK.Ok.newFixed{E:aK}(h:E.Ok)(o:Obj):(E.newFixed o).Ok:=by
 refine⟨?_, ?_,h.injr,h.injb,h.globs_of (E.newFixed_view h o).cell λ_ _ _ hi=>hi,h.objs.of (E.newFixed_view h o) λid k hi=>⟨hi,rfl,heap_alloc _ _ _ (h.objs.lt hi),by simp only[aK.newFixed,if_neg (Nat.ne_of_lt (h.objs.lt hi))]⟩⟩
 ·intro id cs hi;have hl:=h.rowBlock hi;obtain⟨arr,elem,h1,h2,h3,h4⟩:=h.rows id cs hi;have hne:E.ρ id≠E.w.heap.size:=z8
  exact⟨arr,elem,by rw[<-h1];exact heap_alloc _ _ _ hl,h2,λi hl=>(h3 i hl).mono (E.newFixed_view h o),by simp only[aK.newFixed,if_neg hne];exact h4⟩
 ·intro id n sz b hi hb;have hl:=h.bufBlock hi hb;obtain⟨arr,elem,pos,h1,h2⟩:=h.bufs id n sz b hi hb;have hne:b≠E.w.heap.size:=z8
  exact⟨arr,elem,pos,by rw[<-h1];exact heap_alloc _ _ _ hl,by simp only[aK.newFixed,if_neg hne];exact h2⟩
theorem aT{H:List AObj}{id id':Nat}{o:AObj}(hl:id<H.length):(H.set id o)[id']? =if id'=id then some o else H[id']? :=by
 by_cases h:id'=id
 ·subst h;rw[if_pos rfl,aM4 hl]
 ·rw[if_neg h,aM5 (λe=>h e.symm)]
def aK.newRow(E:aK)(id:Nat)(arr:Array Value)(elem:TypeId)(cs:List PV):aK:=
 {w:=E.w.alloc (.cells arr elem),κ:=λb=>if b=E.w.heap.size then .mut else E.κ b,ρ:=λi=>if i=id then E.w.heap.size else E.ρ i,tb:=E.tb,H:=E.H.set id (.row cs)}
section newRow
variable{E:aK}(h:E.Ok){id:Nat}(hi:E.H[id]? =some .unborn)(arr:Array Value)(elem:TypeId)(cs:List PV)
include h hi
theorem aK.newRow_view:E.view.le (E.newRow id arr elem cs).view:=by
 have hlen:id<E.H.length:=by
  rcases aMo id E.H.length with hl|hl
  ·exact hl
  ·rw[aM2 hl]at hi;cases hi
 have hne:∀x,pG E.H x->x≠id:=by rintro x ⟨o,h1,h2⟩ rfl;rw[hi]at h1;cases h1;exact h2 rfl
 refine⟨λa v hc=> ?_,λx hb=> ?_,λx hb=> ?_,λx t' hb ht=>⟨t', ?_, .inl rfl⟩⟩
 ·have hl:=cell?_lt (aK.cell_stable hc);simp only[aK.view]at hc⊢
  split at hc
  ·rename_i hs;have hne:a.block≠E.w.heap.size:=z8
   simp only[aK.newRow,if_neg hne,hs,if_true];rw[cell?_congr (heap_alloc _ _ _ hl)];exact hc
  ·cases hc
 ·have:=hne x hb;obtain⟨o,h1,h2⟩:=hb;exact⟨o,by simp only[aK.newRow,aT hlen,if_neg this];exact h1,h2⟩
 ·simp only[aK.view,aK.newRow,if_neg (hne x hb)]
 ·have:=hne x hb;simp only[aK.view,aK.newRow,aT hlen,if_neg this]at ht⊢
  split at ht
  ·rename_i n sz hx;rw[<-ht];cases htb:E.tb x with
   |none=>rfl
   |some b=>
    have:=h.bufBlock hx htb;have hne:b≠E.w.heap.size:=z8
    simp only[aM3,if_neg hne]
  ·cases ht
theorem aK.newRow_le:E.le (E.newRow id arr elem cs):=by
 have hlen:id<E.H.length:=by
  rcases aMo id E.H.length with hl|hl
  ·exact hl
  ·rw[aM2 hl]at hi;cases hi
 refine⟨rfl,rfl,rfl,by simp[aK.newRow],λb hb _=>⟨?_,heap_alloc _ _ _ hb⟩,aK.newRow_view h hi arr elem cs,λb hb=>Or.imp ?_ (Or.imp ?_ (aK.ownsObj_of λx k hx=> ?_))⟩
 ·have hne:b≠E.w.heap.size:=z8
  simp only[aK.newRow,if_neg hne]
 ·rintro⟨x,cs',h1,h2⟩;simp only[aK.newRow,aT hlen]at h1 h2
  split at h1
  ·rename_i e;rw[if_pos e]at h2;omega
  ·rename_i e;rw[if_neg e]at h2;exact⟨x,cs',h1,h2⟩
 ·rintro⟨x,n,sz,h1,h2⟩;simp only[aK.newRow,aT hlen]at h1 h2
  split at h1
  ·cases h1
  ·exact⟨x,n,sz,h1,h2⟩
 ·simp only[aK.newRow,aT hlen]at hx⊢
  split at hx
  ·cases hx
  ·rename_i e;exact⟨hx,by rw[if_neg e]⟩
theorem aK.Ok.newRow(hs:arr.size=cs.length)(hr:∀i (hl:i<cs.length),aQ E.view (arr.getD i undef) cs[i]):(E.newRow id arr elem cs).Ok:=by
 have hlen:id<E.H.length:=by
  rcases aMo id E.H.length with hl|hl
  ·exact hl
  ·rw[aM2 hl]at hi;cases hi
 have hv:=aK.newRow_view h hi arr elem cs;refine⟨?_, ?_, ?_, ?_,h.globs_of hv.cell (by intro x b vs hx;simp only[aK.newRow,aT hlen]at hx;split at hx<;>first|exact hx|cases hx),h.objs.of hv λx k hx=> ?_⟩
 rotate_left 4
 ·simp only[aK.newRow,aT hlen]at hx⊢
  split at hx
  ·cases hx
  ·rename_i e;have hl:=h.objs.lt hx;exact⟨hx,by rw[if_neg e],heap_alloc _ _ _ hl,by rw[if_neg (Nat.ne_of_lt hl)]⟩
 ·intro x cs' hx;simp only[aK.newRow,aT hlen]at hx
  split at hx
  ·rename_i e;cases hx;refine⟨arr,elem, ?_,hs,λi hl=>(hr i hl).mono hv, ?_⟩
   ·simp only[aK.newRow,if_pos e];exact heap_alloc_new _ _
   ·simp only[aK.newRow,if_pos e,if_true]
  ·rename_i e;have hl:=h.rowBlock hx;obtain⟨arr',elem',h1,h2,h3,h4⟩:=h.rows x cs' hx;have hne:E.ρ x≠E.w.heap.size:=z8
   refine⟨arr',elem', ?_,h2,λi hl=>(h3 i hl).mono hv, ?_⟩
   ·simp only[aK.newRow,if_neg e];rw[<-h1];exact heap_alloc _ _ _ hl
   ·simp only[aK.newRow,if_neg e,if_neg hne];exact h4
 ·intro x n sz b hx hb;simp only[aK.newRow,aT hlen]at hx hb
  split at hx
  ·cases hx
  ·have hl:=h.bufBlock hx hb;obtain⟨arr',elem',pos,h1,h2⟩:=h.bufs x n sz b hx hb;have hne:b≠E.w.heap.size:=z8
   exact⟨arr',elem',pos,by rw[<-h1];exact heap_alloc _ _ _ hl,by simp only[aK.newRow,if_neg hne];exact h2⟩
 ·intro x x' c c' h1 h2 e;simp only[aK.newRow,aT hlen]at h1 h2 e
  split at h1<;>split at h2
  ·omega
  ·rename_i a b;rw[if_pos a,if_neg b]at e;have:=h.rowBlock h2;omega
  ·rename_i a b;rw[if_neg a,if_pos b]at e;have:=h.rowBlock h1;omega
  ·rename_i a b;rw[if_neg a,if_neg b]at e;exact h.injr x x' c c' h1 h2 e
 ·intro x x' n sz n' sz' b h1 h2 e e';simp only[aK.newRow,aT hlen]at h1 h2 e e'
  split at h1<;>split at h2
  ·cases h1
  ·cases h1
  ·cases h2
  ·exact h.injb x x' n sz n' sz' b h1 h2 e e'
end newRow
def aK.setRow(E:aK)(id off:Nat)(v:Value)(cs:List PV)(p:PV):aK:=
 {E with w:=E.w.setCell ⟨E.ρ id,off,none⟩ v,H:=E.H.set id (.row (cs.set off p))}
theorem gX(w:World)(a:Addr)(u:Value)(k:Nat)(h:k≠a.block):(w.setCell a u).heap[k]? =w.heap[k]? :=
 Go.RowKit.Below.heap_setCell w a u k h
theorem mD{w:World}{b o:Nat}{u:Value}{arr elem fr}(h:w.heap[b]? =some (.cells arr elem fr)):
  (w.setCell ⟨b,o,none⟩ u).heap[b]? =some (.cells (arr.setIfInBounds o u) elem fr):=by
 simp only[World.setCell,Array.getElem?_modify,if_true,h,aM6];rfl
section setRow
variable{E:aK}(h:E.Ok){id:Nat}{cs:List PV}(hi:E.H[id]? =some (.row cs))(off:Nat){v:Value}{p:PV}
include h hi
theorem aK.setRow_view:E.view.le (E.setRow id off v cs p).view:=by
 have hlen:id<E.H.length:=by
  rcases aMo id E.H.length with hl|hl
  ·exact hl
  ·rw[aM2 hl]at hi;cases hi
 obtain⟨arr,elem,h1,h2,h3,h4⟩:=h.rows id cs hi;refine⟨λa u hc=> ?_,λx hb=> ?_,λx hb=>rfl,λx t' hb ht=>⟨t', ?_, .inl rfl⟩⟩
 ·simp only[aK.view]at hc⊢
  split at hc
  ·rename_i hs;have hne:a.block≠E.ρ id:=by intro e;rw[e,h4]at hs;simp[rN.stable]at hs
   simp only[aK.setRow,hs,if_true];rw[cell?_congr (gX _ _ _ _ hne)];exact hc
  ·cases hc
 ·obtain⟨o,a1,a2⟩:=hb
  by_cases e:x=id
  ·exact⟨.row (cs.set off p),by simp only[aK.setRow,aT hlen,if_pos e],zz⟩
  ·exact⟨o,by simp only[aK.setRow,aT hlen,if_neg e];exact a1,a2⟩
 ·by_cases e:x=id
  ·simp only[aK.view,aK.setRow,aT hlen,if_pos e]at ht;cases ht
  ·simp only[aK.view,aK.setRow,aT hlen,if_neg e]at ht⊢;exact ht
theorem aK.setRow_le:E.le (E.setRow id off v cs p):=by
 have hlen:id<E.H.length:=by
  rcases aMo id E.H.length with hl|hl
  ·exact hl
  ·rw[aM2 hl]at hi;cases hi
 refine⟨rfl,rfl,rfl,by simp[aK.setRow,World.setCell],λb hb hn=>⟨rfl, ?_⟩,aK.setRow_view h hi off,λb hb=>Or.imp ?_ (Or.imp ?_ (aK.ownsObj_of λx k hx=> ?_))⟩
 ·exact gX _ _ _ _ (λe=>hn (.inl ⟨id,cs,hi,e.symm⟩))
 ·rintro⟨x,cs',a1,a2⟩;simp only[aK.setRow,aT hlen]at a1 a2
  split at a1
  ·rename_i e;exact⟨id,cs,hi,by rw[<-e];exact a2⟩
  ·exact⟨x,cs',a1,a2⟩
 ·rintro⟨x,n,sz,a1,a2⟩;simp only[aK.setRow,aT hlen]at a1 a2
  split at a1
  ·cases a1
  ·exact⟨x,n,sz,a1,a2⟩
 ·simp only[aK.setRow,aT hlen]at hx
  split at hx
  ·cases hx
  ·exact⟨hx,rfl⟩
theorem aK.Ok.setRow(hv:aQ E.view v p):(E.setRow id off v cs p).Ok:=by
 have hlen:id<E.H.length:=by
  rcases aMo id E.H.length with hl|hl
  ·exact hl
  ·rw[aM2 hl]at hi;cases hi
 have hle:=aK.setRow_view h hi off (v:=v) (p:=p);obtain⟨arr,elem,h1,h2,h3,h4⟩:=h.rows id cs hi;refine⟨?_, ?_, ?_, ?_,h.globs_of hle.cell (by intro x b vs hx;simp only[aK.setRow,aT hlen]at hx;split at hx<;>first|exact hx|cases hx),h.objs.of hle λx k hx=> ?_⟩
 rotate_left 4
 ·simp only[aK.setRow,aT hlen]at hx
  split at hx
  ·cases hx
  ·refine⟨hx,rfl,gX _ _ _ _ λe=> ?_,rfl⟩;obtain⟨⟨o,b1,b2⟩,_⟩:=h.objs.at_ x k hx;rw[show E.ρ x=E.ρ id from e,h1]at b1;cases b1;exact b2.cells
 ·intro x cs' hx;simp only[aK.setRow,aT hlen]at hx
  split at hx
  ·rename_i e;cases hx;subst e;refine⟨arr.setIfInBounds off v,elem,mD h1,by simp[h2],λi hl=> ?_,h4⟩;simp only[lS]at hl;rw[aMt]
   by_cases e:off=i
   ·subst e;rw[aMu z8];simp only[aMz,List.getElem_set_self];exact hv.mono hle
   ·rw[aMv e,List.getElem_set_ne e,<-aMt];exact(h3 i hl).mono hle
  ·rename_i e;obtain⟨arr',elem',b1,b2,b3,b4⟩:=h.rows x cs' hx;have hne:E.ρ x≠E.ρ id:=λq=>e (h.injr x id cs' cs hx hi q);exact⟨arr',elem',by rw[<-b1];exact gX _ _ _ _ hne,b2,λi hl=>(b3 i hl).mono hle,b4⟩
 ·intro x n sz b hx hb;simp only[aK.setRow,aT hlen]at hx hb
  split at hx
  ·cases hx
  ·obtain⟨arr',elem',pos,b1,b2⟩:=h.bufs x n sz b hx hb;have hne:b≠E.ρ id:=by intro q;rw[q,h4]at b2;cases b2
   exact⟨arr',elem',pos,by rw[<-b1];exact gX _ _ _ _ hne,b2⟩
 ·intro x x' c c' a1 a2 e;simp only[aK.setRow,aT hlen]at a1 a2 e;have fix:∀y d,(if y=id then some (AObj.row (cs.set off p))else E.H[y]?)=some (.row d)->∃d',E.H[y]? =some (.row d'):=by
   intro y d q
   split at q
   ·rename_i e;subst e;exact⟨cs,hi⟩
   ·exact⟨d,q⟩
  obtain⟨d,hd⟩:=fix _ _ a1;obtain⟨d',hd'⟩:=fix _ _ a2;exact h.injr x x' d d' hd hd' e
 ·intro x x' n sz n' sz' b a1 a2 e e';simp only[aK.setRow,aT hlen]at a1 a2 e e'
  split at a1<;>split at a2
  ·cases a1
  ·cases a1
  ·cases a2
  ·exact h.injb x x' n sz n' sz' b a1 a2 e e'
end setRow
def aK.newBuf(E:aK)(id n sz:Nat)(arr:Array Value)(elem:TypeId)(pos:Nat):aK:=
  {w:=E.w.alloc (.cells arr elem),κ:=λb=>if b=E.w.heap.size then .buf pos arr.size else E.κ b,ρ:=E.ρ,
    tb:=λi=>if i=id then some E.w.heap.size else E.tb i,H:=E.H.set id (.buf n sz)}
def aK.retok(E:aK)(id n sz:Nat):aK:=
  {E with tb:=λi=>if i=id then none else E.tb i,H:=E.H.set id (.buf n sz)}
section newBuf
variable{E:aK}(h:E.Ok){id n sz:Nat}(hi:E.H[id]? =some .unborn\/∃n0,E.H[id]? =some (.buf n0 sz)/\n0<n)(arr:Array Value)(elem:TypeId)(pos:Nat)
include h hi
omit h in
theorem sF:id<E.H.length:=by
  rcases aMo id E.H.length with hl|hl
  · exact hl
  · rw[aM2 hl]at hi;rcases hi with hi| ⟨_,hi,_⟩<;>cases hi
theorem aK.newBuf_view:E.view.le (E.newBuf id n sz arr elem pos).view:=by
  have hlen:=sF hi;refine⟨λa v hc=> ?_,λx hb=> ?_,λx hb=>rfl,λx t' hb ht=> ?_⟩
  · have hl:=cell?_lt (aK.cell_stable hc)
    simp only[aK.view]at hc⊢
    split at hc
    · rename_i hs
      have hne:a.block≠E.w.heap.size:=z8
      simp only[aK.newBuf,if_neg hne,hs,if_true];rw[cell?_congr (heap_alloc _ _ _ hl)];exact hc
    · cases hc
  · obtain⟨o,h1,h2⟩:=hb
    by_cases e:x=id
    · exact⟨.buf n sz,by simp only[aK.newBuf,aT hlen,if_pos e],zz⟩
    · exact⟨o,by simp only[aK.newBuf,aT hlen,if_neg e];exact h1,h2⟩
  · by_cases e:x=id
    · subst e
      rcases hi with hu| ⟨n0,hu,hn⟩
      · obtain⟨o,h1,h2⟩:=hb
        rw[hu]at h1;cases h1;exact(h2 rfl).elim
      · refine⟨_,by simp only[aK.view,hu];rfl, .inr ?_⟩
        simp only[aK.view,aK.newBuf,aT hlen,if_true]at ht;cases ht;exact hn
    · refine⟨t', ?_, .inl rfl⟩
      simp only[aK.view,aK.newBuf,aT hlen,if_neg e]at ht⊢
      split at ht
      · rename_i n' sz' hx
        rw[<-ht];cases htb:E.tb x with
        |none=>rfl
        |some b=>
          have:=h.bufBlock hx htb;have hne:b≠E.w.heap.size:=z8
          simp only[aM3,if_neg hne]
      · cases ht
theorem aK.newBuf_le:E.le (E.newBuf id n sz arr elem pos):=by
  have hlen:=sF hi;refine⟨rfl,rfl,rfl,by simp[aK.newBuf],λb hb _=>⟨?_,heap_alloc _ _ _ hb⟩,aK.newBuf_view h hi arr elem pos,λb hb=>Or.imp ?_ (Or.imp ?_ (aK.ownsObj_of λx k hx=> ?_))⟩
  · have hne:b≠E.w.heap.size:=z8
    simp only[aK.newBuf,if_neg hne]
  · rintro⟨x,cs',h1,h2⟩
    simp only[aK.newBuf,aT hlen]at h1 h2
    split at h1
    · cases h1
    · exact⟨x,cs',h1,h2⟩
  · rintro⟨x,m,s,h1,h2⟩
    simp only[aK.newBuf,aT hlen]at h1 h2
    split at h1
    · rename_i e;rw[if_pos e]at h2;cases h2;omega
    · rename_i e;rw[if_neg e]at h2;exact⟨x,m,s,h1,h2⟩
  · simp only[aK.newBuf,aT hlen]at hx
    split at hx
    · cases hx
    · exact⟨hx,rfl⟩
theorem aK.Ok.newBuf:(E.newBuf id n sz arr elem pos).Ok:=by
  have hlen:=sF hi;have hv:=aK.newBuf_view h hi arr elem pos;refine⟨?_, ?_, ?_, ?_,h.globs_of hv.cell (by intro x b vs hx;simp only[aK.newBuf,aT hlen]at hx;split at hx<;>first|exact hx|cases hx),h.objs.of hv λx k hx=> ?_⟩
  rotate_left 4
  · simp only[aK.newBuf,aT hlen]at hx
    split at hx
    · cases hx
    · have hl:=h.objs.lt hx
      exact⟨hx,rfl,heap_alloc _ _ _ hl,by simp only[aK.newBuf,if_neg (Nat.ne_of_lt hl)]⟩
  · intro x cs' hx
    simp only[aK.newBuf,aT hlen]at hx
    split at hx
    · cases hx
    · have hl:=h.rowBlock hx
      obtain⟨arr',elem',h1,h2,h3,h4⟩:=h.rows x cs' hx;have hne:E.ρ x≠E.w.heap.size:=z8
      refine⟨arr',elem', ?_,h2,λi hl=>(h3 i hl).mono hv, ?_⟩
      · rw[<-h1];exact heap_alloc _ _ _ hl
      · simp only[aK.newBuf,if_neg hne];exact h4
  · intro x m s b hx hb
    simp only[aK.newBuf,aT hlen]at hx hb
    split at hx
    · rename_i e
      rw[if_pos e]at hb;cases hb;exact⟨arr,elem,pos,heap_alloc_new _ _,by simp only[aK.newBuf,if_true]⟩
    · rename_i e
      rw[if_neg e]at hb;have hl:=h.bufBlock hx hb;obtain⟨arr',elem',pos,h1,h2⟩:=h.bufs x m s b hx hb;have hne:b≠E.w.heap.size:=z8
      exact⟨arr',elem',pos,by rw[<-h1];exact heap_alloc _ _ _ hl,by simp only[aK.newBuf,if_neg hne];exact h2⟩
  · intro x x' c c' h1 h2 e
    simp only[aK.newBuf,aT hlen]at h1 h2 e
    split at h1<;>split at h2
    · cases h1
    · cases h1
    · cases h2
    · exact h.injr x x' c c' h1 h2 e
  · intro x x' n1 s1 n2 s2 b h1 h2 e e'
    simp only[aK.newBuf,aT hlen]at h1 h2 e e'
    split at h1<;>split at h2
    · omega
    · rename_i a b
      rw[if_pos a]at e;rw[if_neg b]at e';cases e;have:=h.bufBlock h2 e';omega
    · rename_i a b
      rw[if_neg a]at e;rw[if_pos b]at e';cases e';have:=h.bufBlock h1 e;omega
    · rename_i a b
      rw[if_neg a]at e;rw[if_neg b]at e';exact h.injb x x' _ _ _ _ _ h1 h2 e e'
end newBuf
section retok
variable{E:aK}(h:E.Ok){id n sz:Nat}(hi:E.H[id]? =some .unborn)
include h hi
omit h in
theorem aK.retok_view:E.view.le (E.retok id n sz).view:=by
  have hlen:id<E.H.length:=sF (.inl hi) (n:=n) (sz:=sz);have hne:∀x,pG E.H x->x≠id:=by rintro x ⟨o,h1,h2⟩ rfl;rw[hi]at h1;cases h1;exact h2 rfl
  refine⟨λa v hc=>hc,λx hb=> ?_,λx hb=>rfl,λx t' hb ht=>⟨t', ?_, .inl rfl⟩⟩
  · have:=hne x hb
    obtain⟨o,h1,h2⟩:=hb;exact⟨o,by simp only[aK.retok,aT hlen,if_neg this];exact h1,h2⟩
  · simp only[aK.view,aK.retok,aT hlen,if_neg (hne x hb)]at ht⊢;exact ht
omit h in
theorem aK.retok_le:E.le (E.retok id n sz):=by
  have hlen:id<E.H.length:=sF (.inl hi) (n:=n) (sz:=sz);refine⟨rfl,rfl,rfl,aMq _,λb hb _=>⟨rfl,rfl⟩,aK.retok_view hi,λb hb=>Or.imp ?_ (Or.imp ?_ (aK.ownsObj_of λx k hx=> ?_))⟩
  · rintro⟨x,cs',h1,h2⟩
    simp only[aK.retok,aT hlen]at h1 h2
    split at h1
    · cases h1
    · exact⟨x,cs',h1,h2⟩
  · rintro⟨x,m,s,h1,h2⟩
    simp only[aK.retok,aT hlen]at h1 h2
    split at h1
    · rename_i e;rw[if_pos e]at h2;cases h2
    · rename_i e;rw[if_neg e]at h2;exact⟨x,m,s,h1,h2⟩
  · simp only[aK.retok,aT hlen]at hx
    split at hx
    · cases hx
    · exact⟨hx,rfl⟩
theorem aK.Ok.retok:(E.retok id n sz).Ok:=by
  have hlen:id<E.H.length:=sF (.inl hi) (n:=n) (sz:=sz);have hv:=aK.retok_view hi (n:=n) (sz:=sz);refine⟨?_, ?_, ?_, ?_,h.globs_of hv.cell (by intro x b vs hx;simp only[aK.retok,aT hlen]at hx;split at hx<;>first|exact hx|cases hx),h.objs.of hv λx k hx=> ?_⟩
  rotate_left 4
  · simp only[aK.retok,aT hlen]at hx
    split at hx
    · cases hx
    · exact⟨hx,rfl,rfl,rfl⟩
  · intro x cs' hx
    simp only[aK.retok,aT hlen]at hx
    split at hx
    · cases hx
    · obtain⟨arr',elem',h1,h2,h3,h4⟩:=h.rows x cs' hx
      exact⟨arr',elem',h1,h2,λi hl=>(h3 i hl).mono hv,h4⟩
  · intro x m s b hx hb
    simp only[aK.retok,aT hlen]at hx hb
    split at hx
    · rename_i e
      rw[if_pos e]at hb;cases hb
    · rename_i e
      rw[if_neg e]at hb;exact h.bufs x m s b hx hb
  · intro x x' c c' h1 h2 e
    simp only[aK.retok,aT hlen]at h1 h2 e
    split at h1<;>split at h2
    · cases h1
    · cases h1
    · cases h2
    · exact h.injr x x' c c' h1 h2 e
  · intro x x' n1 s1 n2 s2 b h1 h2 e e'
    simp only[aK.retok,aT hlen]at h1 h2 e e'
    split at h1<;>split at h2
    · omega
    · rename_i a _;rw[if_pos a]at e;cases e
    · rename_i _ a;rw[if_pos a]at e';cases e'
    · rename_i a b
      rw[if_neg a]at e;rw[if_neg b]at e';exact h.injb x x' _ _ _ _ _ h1 h2 e e'
end retok
def iM(w:World)(a:Addr):List Value->Nat->World
  | [],_=>w
  |v::vs,i=>iM (w.setCell (a.add i) v) a vs (i+1)
theorem zH(a:Addr):∀(vs:List Value) (i:Nat) (w:World),(iM w a vs i).os=w.os/\(iM w a vs i).tape=w.tape/\(iM w a vs i).output=w.output/\(iM w a vs i).heap.size=w.heap.size
  | [],_,_=>⟨rfl,rfl,rfl,rfl⟩
  |v::vs,i,w=>by
    obtain⟨h1,h2,h3,h4⟩:=zH a vs (i+1) (w.setCell (a.add i) v);exact⟨h1,h2,h3,by rw[iM,h4];simp[World.setCell]⟩
theorem SK(a:Addr)(n:Nat):(a.add n).block=a.block:=by unfold Addr.add;split<;>rfl
theorem mM(a:Addr)(k:Nat)(hk:k≠a.block):∀(vs:List Value) (i:Nat) (w:World),(iM w a vs i).heap[k]? =w.heap[k]?
  | [],_,_=>rfl
  |v::vs,i,w=>by
    rw[iM,mM a k hk vs (i+1)];exact gX _ _ _ _ (by rw[SK];exact hk)
theorem qE(b off:Nat)(elem:TypeId)(fr:Nat×Nat):∀(vs:List Value) (i:Nat) (w:World) (arr:Array Value),w.heap[b]? =some (.cells arr elem fr)->∃arr',(iM w ⟨b,off,none⟩ vs i).heap[b]? =some (.cells arr' elem fr)/\arr'.size=arr.size/\∀o,o<arr.size->arr'[o]? =if off+i<=o/\o<off+i+vs.length then vs[o- (off+i)]? else arr[o]?
  | [],i,w,arr,h=>⟨arr,h,rfl,λo ho=>by rw[if_neg zz]⟩
  |v::vs,i,w,arr,h=>by
    have h1:(w.setCell ((⟨b,off,none⟩:Addr).add i) v).heap[b]? =some (.cells (arr.setIfInBounds (off+i) v) elem fr):=by
      rw[dH];exact mD h
    obtain⟨arr',h2,h3,h4⟩:=qE b off elem fr vs (i+1) _ _ h1;refine⟨arr',h2,by simpa using h3,λo ho=> ?_⟩;rw[h4 o (by simpa using ho)]
    by_cases e:o=off+i
    · subst e
      rw[if_neg z8,if_pos (by simp only[aM7];omega),aMu ho];simp
    · by_cases c:off+(i+1)<=o/\o<off+(i+1)+vs.length
      · rw[if_pos c,if_pos (by simp only[aM7];omega)]
        rw[show o- (off+i)=(o- (off+(i+1)))+1 by omega,aM8]
      · rw[if_neg c,if_neg (by simp only[aM7];omega),aMv (λq=>e q.symm)]
def Value.isCell:Value->Bool
  | .agg _| .tuple _=>false
  |_=>true
theorem CW{P:Program}{w:World}{a:Addr}{v:Value}(hv:Value.isCell v=true)(hc:∃u,w.cell? a=some u)(hf:w.frozen? a=false):(store a v).run P w= .ok () (w.setCell a v):=by
  obtain⟨u,hu⟩:=hc;cases v<;>first| (simp[Value.isCell]at hv;done)|simp[store,Sem.run,hu,hf]
theorem CH{w:World}{a:Addr}{arr elem}(h:w.heap[a.block]? =some (.cells arr elem (0,0))):w.frozen? a=false:=by
  unfold World.frozen?;rw[h];simp
theorem kF{w:World}{b o:Nat}{arr elem fr}(h:w.heap[b]? =some (.cells arr elem fr)):w.cell? ⟨b,o,none⟩=arr[o]? :=by
  unfold World.cell?;simp[h]
theorem tC{P:Program}(b off:Nat)(elem:TypeId):∀(vs:List Value) (i:Nat) (w:World) (arr:Array Value),w.heap[b]? =some (.cells arr elem (0,0))->(∀v∈vs,Value.isCell v=true)->off+i+vs.length<=arr.size->(storeCells ⟨b,off,none⟩ vs i).run P w= .ok () (iM w ⟨b,off,none⟩ vs i)
  | [],i,w,arr,_,_,_=>rfl
  |v::vs,i,w,arr,h,hv,hl=>by
    simp only[aM7]at hl;have h1:(w.setCell ((⟨b,off,none⟩:Addr).add i) v).heap[b]? =some (.cells (arr.setIfInBounds (off+i) v) elem (0,0)):=by
      rw[dH];exact mD h
    have hs:(store ((⟨b,off,none⟩:Addr).add i) v).run P w= .ok () (w.setCell ((⟨b,off,none⟩:Addr).add i) v):=by
      refine CW (hv v zz) ⟨arr[off+i], ?_⟩ ?_
      · rw[dH,kF h,aMy]
      · rw[dH];exact CH h
    simp only[storeCells,aM9,hs,aNa];exact tC b off elem vs (i+1) _ _ h1 (λu hu=>hv u (by simp[hu])) (by simp;omega)
def DO:TypeDesc->Bool
 | .struct _| .array _ _=>true
 |_=>false
structure TI where
 agg:Bool
 sz:Nat
 bytes:Nat
def bZ(P:Program)(t:TypeId):Option TI:=
 match P.underlying t,P.info? t with
 |some d,some i=>some ⟨DO d,i.size,i.bytes⟩
 |_,_=>none
def kO(P:Program)(t:TypeId):Option (List (Nat×TI)):=
 match P.underlying t with
 |some (.struct fs)=>fs.toList.mapM λf=>(bZ P f.type).map λi=>(f.offset,i)
 |_=>none
def cJ(P:Program)(t:TypeId):Option (TypeId×TI):=
 match P.underlying t with
 |some (.slice e)=>(bZ P e).map λi=>(e,i)
 |_=>none
def cA(P:Program)(t:TypeId):Option PV:=((P.info? t).bind (·.zero)).map aW
def iW(P:Program)(t:TypeId):Bool:=match P.underlying t with|some (.pointer _)=>true|_=>false
def LW(P:Program)(t:TypeId):Bool:=match P.underlying t with|some .string=>true|_=>false
def aAc(P:Program)(t:TypeId):Bool:=match P.underlying t with|some .bool=>true|_=>false
def AG(P:Program)(t:TypeId):Option IntKind:=match P.underlying t with|some (.int k)=>some k|_=>none
def PV.isCell:PV->Bool
 | .agg _| .tup _| .junk=>false
 |_=>true
def PV.isJunk:PV->Bool
 | .junk=>true
 |_=>false
def PV.fits(i:TI)(p:PV):Bool:=decide (p.cells.length=i.sz)&&(match p with| .agg _=>i.agg| .tup _| .junk=>false|_=> !i.agg)
def jK(i:TI)(H:List AObj):PV->Option PV
 | .optr id off=>match H[id]? with
  |some (.row cs)=>if i.agg then(if off+i.sz<=cs.length then some (.agg (((cs.drop off).take i.sz).map PV.drop1))else none)else cs[off]?
  |_=>none
 | .iptr cs=>if i.agg then(if i.sz<=cs.length then some (.agg (cs.take i.sz))else none)else cs[0]?
 |_=>none
def dR(cs:List PV)(off:Nat)(vs:List PV):List PV:=
 match vs with
 | []=>cs
 |v::vs=>dR (cs.set off v) (off+1) vs
def nS(i:TI)(H:List AObj)(a:PV)(v:PV):Option (Nat×AObj):=
 match a with
 | .optr id off=>match H[id]? with
  |some (.row cs)=>if off+i.sz<=cs.length/\v.cells.length=i.sz/\v.cells.all PV.isCell=true then some (id, .row (dR cs off v.cells))else none
  |_=>none
 |_=>none
def eC(P:Program)(op:BinOp)(xt:TypeId)(x y:PV):Option PV:=
 match x,y with
 | .int k a, .int k' b=>if k=k' then
   match op with
   | .add=>some (.int k (k.wrap (a+b)))
   | .sub=>some (.int k (k.wrap (a-b)))
   | .mul=>some (.int k (k.wrap (a*b)))
   | .quo=>if b=0 then none else some (.int k (k.wrap (a.tdiv b)))
   | .rem=>if b=0 then none else some (.int k (a.tmod b))
   | .eql=>some (.bool (decide (a=b)))
   | .neq=>some (.bool (!decide (a=b)))
   | .lss=>some (.bool (decide (a<b)))
   | .leq=>some (.bool (decide (a<=b)))
   | .gtr=>some (.bool (decide (a>b)))
   | .geq=>some (.bool (decide (a>=b)))
   |_=>none
  else none
 | .bool a, .bool b=>if aAc P xt then
   match op with
   | .eql=>some (.bool (a==b))
   | .neq=>some (.bool (!(a==b)))
   |_=>none
  else none
 | .str a, .str b=>
   match op with
   | .eql=>some (.bool (decide (a=b)))
   | .neq=>some (.bool (!decide (a=b)))
   | .add=>if a.length+b.length<=maxLen then some (.str (a++b))else none
   | .lss=>some (.bool (Op.bytesLess a b))
   |_=>none
 | .nilp, .nilp=>if iW P xt then(match op with| .eql=>some (.bool true)| .neq=>some (.bool false)|_=>none)else none
 | .iptr _, .nilp| .optr _ _, .nilp=>if iW P xt then(match op with| .eql=>some (.bool false)| .neq=>some (.bool true)|_=>none)else none
 |_,_=>none
def aun(op:UnOp)(x:PV):Option PV:=
 match op,x with
 | .not, .bool b=>some (.bool !b)
 | .neg, .int k n=>some (.int k (k.wrap (0-n)))
 |_,_=>none
def zY(i:PV)(n:Nat):Option Nat:=
 match i with
 | .int _ i=>if 0<=i/\i<n then some i.toNat else none
 |_=>none
def zU(i:PV)(n:Nat):Option Nat:=
 match i with
 | .int _ i=>if 0<=i/\i<=n then some i.toNat else none
 |_=>none
def lU(T:Nat->PV)(i:Option Operand)(n d:Nat):Option Nat:=
 match i with
 |some x=>zU (bS T x) n
 |none=>some d
def lP(P:Program)(T:Nat->PV)(t:TypeId)(x:PV)(lo hi mx:Option Operand):Option PV:=
 match x with
 | .str s=>if LW P t=true/\mx.isNone=true then
   (lU T hi s.length s.length).bind λh=>(lU T lo h 0).bind λl=>some (.str ((s.take h).drop l))
  else none
 | .slice es tl=>match cJ P t with
  |some (e,i)=>if(∀e∈es,e.cells.length=i.sz)then
   match mx with
   |none=>(lU T hi es.length es.length).bind λh=>(lU T lo h 0).bind λl=>
     some (.slice ((es.take h).drop l) (if h=es.length/\tl= .full then .full else if hi.isNone=true/\lo.isNone=true then tl else .none))
   |some m=>match hi with
    |none=>none
    |some h=>(zU (bS T m) es.length).bind λm=>(zU (bS T h) m).bind λh=>(lU T lo h 0).bind λl=>
     some (.slice ((es.take h).drop l) (if h=m then .full else .none))
   else none
  |none=>none
 |_=>none
def XA(fl:List (Nat×TI))(f:Nat)(x:PV):Option PV:=
 match fl[f]?,x with
 |some (off,i), .agg cs=>if off+i.sz<=cs.length then(if i.agg then some (.agg ((cs.drop off).take i.sz))else cs[off]?)else none
 |_,_=>none
def tF(fl:List (Nat×TI))(f:Nat)(x:PV):Option PV:=
 match fl[f]? with
 |some (off,i)=>if i.sz=0 then none else
  match x with
  | .optr id o=>some (.optr id (o+off))
  | .iptr cs=>some (.iptr (cs.drop off))
  |_=>none
 |_=>none
def mW(ti:TypeId×TI)(x i:PV):Option PV:=
 match x with
 | .slice es _=>(zY i es.length).bind λk=>(es[k]?).bind λe=>if e.cells.length=ti.2.sz then some (.iptr e.cells)else none
 | .msl id off n _=>(zY i n).bind λk=>some (.optr id (off+k*ti.2.sz))
 |_=>none
def oG(fl:List (Nat×TI))(T:Nat->PV):List PV->List (Nat×Operand)->Option (List PV)
 |cs,[]=>some cs
 |cs,(f,x)::rest=>match fl[f]? with
  |some (off,i)=>if(bS T x).isJunk=false/\(bS T x).cells.length=i.sz/\off+i.sz<=cs.length then oG fl T (dR cs off ((bS T x).cells.map PV.drop1)) rest else none
  |none=>none
def mE(i:TI)(T:Nat->PV):List PV->List (Nat×Operand)->Option (List PV)
 |es,[]=>some es
 |es,(k,x)::rest=>if(bS T x).fits i=true/\k<es.length then mE i T (es.set k (bS T x).drop1) rest else none
abbrev pK:=Option (Nat×AObj)
def pK.app(e:pK)(H:List AObj):List AObj:=
 match e with
 |some (id,o)=>H.set id o
 |none=>H
def cK(i:TI)(fresh:Nat)(H:List AObj)(s x:PV):Option (PV×pK):=
 match s,x with
 | .slice es tl, .slice xs _=>
  if xs= []then some (.slice es tl,none)
  else if(es.length+xs.length)*i.bytes<=2^47/\es.length+xs.length<=maxLen/\(∀e∈es,e.cells.length=i.sz)/\(∀e∈xs,e.cells.length=i.sz/\e.cells.all PV.isCell=true)/\0<i.sz then
   match tl with
   | .full=>some (.slice (es++xs) (.tok fresh),some (fresh, .buf (es.length+xs.length) i.sz))
   | .tok id=>match H[id]? with
    |some (.buf n sz)=>if n=es.length/\sz=i.sz then some (.slice (es++xs) (.tok id),some (id, .buf (es.length+xs.length) sz))else none
    |_=>none
   | .none=>none
  else none
 |_,_=>none
def mJ(mt:Bool)(z:PV)(i:TI)(fresh:Nat)(l c:PV):Option (PV×pK):=
 match l,c with
 | .int .i64 l, .int .i64 c=>
  if 0<=l/\l<=c/\c*i.bytes<=2^47/\c<=maxLen/\z.fits i=true/\0<i.sz then
   if mt then some (.msl fresh 0 l.toNat c.toNat,some (fresh, .row ((aNb c.toNat z.cells).flatten)))
   else if l=c then some (.slice (aNb l.toNat z.drop1) .full,none)
   else some (.slice (aNb l.toNat z.drop1) (.tok fresh),some (fresh, .buf l.toNat i.sz))
  else none
 |_,_=>none
def pZ(p:PV):Option (PV×pK):=some (p,none)
def dA(P:Program)(fresh:Nat)(T:Nat->PV)(H:List AObj)(b:Builtin)(xs:List Operand)(ts:List TypeId):Option (PV×pK):=
 match b,xs,ts with
 | .len,[x],[t]=>match bS T x with
  | .slice es _=>if(cJ P t).isSome then some (.int .i64 es.length,none)else none
  | .msl _ _ n _=>if(cJ P t).isSome then some (.int .i64 n,none)else none
  | .str s=>if LW P t then some (.int .i64 s.length,none)else none
  |_=>none
 | .min,[x,y],_=>match bS T x,bS T y with
  | .int .i64 a, .int .i64 b=>some (.int .i64 (min a b),none)
  |_,_=>none
 | .max,[x,y],_=>match bS T x,bS T y with
  | .int .i64 a, .int .i64 b=>some (.int .i64 (max a b),none)
  |_,_=>none
 | .append,[x,y],[t,u]=>(cJ P t).bind λei=>(cA P ei.1).bind λz=>if(cJ P u).isSome=true/\z.fits ei.2=true then cK ei.2 fresh H (bS T x) (bS T y)else none
 |_,_,_=>none
def aAm(P:Program)(t:TypeId):Option TypeId:=
 match P.underlying t with
 |some (.map k e)=>match P.underlying k with
  |some (.int .i64)=>some e
  |_=>none
 |_=>none
def sQ:List (Int×PV)->Int->Nat->Option (Nat×PV)
 | [],_,_=>none
 |e::es,n,j=>if e.1=n then some (j,e.2)else sQ es n (j+1)
def aI3(es:List (Int×PV))(n:Int):Option PV:=(sQ es n 0).map (·.2)
def aA3(es:List (Int×PV))(n:Int)(v:PV):List (Int×PV):=
 match sQ es n 0 with
 |some (i,_)=>es.set i (n,v)
 |none=>es++ [(n,v)]
def LL(P:Program)(i:Nat)(f:Field):Bool:=decide (f.name≠ "_")&&decide (f.offset=i)&&(match P.underlying f.type with|some (.int .i64)=>true|_=>false)
def rC(P:Program)(t:TypeId):Option TypeId:=
 match P.underlying t with
 |some (.map k e)=>match P.underlying k with
  |some (.struct fs)=>match fs.toList with
   | [a,b,c]=>if(LL P 0 a&&LL P 1 b&&LL P 2 c&& !P.stoodInHeld k&& !P.eqGuardType P.depth k)=true then some e else none
   |_=>none
  |_=>none
 |_=>none
def iH:List (Nat×(Int×Int×Int)×PV)->Int×Int×Int->Nat->Option (Nat×Nat×PV)
 | [],_,_=>none
 |e::es,n,j=>if n=e.2.1 then some (j,e.1,e.2.2)else iH es n (j+1)
def gP(es:List (Nat×(Int×Int×Int)×PV))(n:Int×Int×Int):Option PV:=(iH es n 0).map (·.2.2)
def sE(es:List (Nat×(Int×Int×Int)×PV))(clk:Nat)(n:Int×Int×Int)(v:PV):List (Nat×(Int×Int×Int)×PV):=
 match iH es n 0 with
 |some (i,b,_)=>es.set i (b,n,v)
 |none=>es++ [(clk,n,v)]
def vS(es:List (Nat×(Int×Int×Int)×PV))(clk:Nat)(n:Int×Int×Int):Nat:=if(gP es n).isSome then clk else clk+1
def uU(es:List (Nat×(Int×Int×Int)×PV))(n:Int×Int×Int):List (Nat×(Int×Int×Int)×PV):=
 match iH es n 0 with
 |some (i,_)=>es.eraseIdx i
 |none=>es
def oD(ok:Bool)(z:PV):Option PV->PV
 |some v=>if ok then .tup [v, .bool true]else v
 |none=>if ok then .tup [z, .bool false]else z
def cD(P:Program)(H:List AObj)(t:TypeId)(x k:PV)(ok:Bool):Option PV:=
 match x,k with
 | .mapp id, .int .i64 n=>match H[id]? with
  |some (.obj (.mapo es))=>(aAm P t).bind λe=>(cA P e).bind λz=>some (oD ok z (aI3 es n))
  |_=>none
 | .mapp id, .agg [.int .i64 a, .int .i64 b, .int .i64 c]=>match H[id]? with
  |some (.obj (.mapg es _))=>(rC P t).bind λe=>(cA P e).bind λz=>some (oD ok z (gP es (a,b,c)))
  |_=>none
 |_,_=>none
def dG(P:Program)(H:List AObj)(t:TypeId)(x k v:PV):Option (Nat×AObj):=
 match x,k with
 | .mapp id, .int .i64 n=>match H[id]? with
  |some (.obj (.mapo es))=>if(aAm P t).isSome=true then some (id, .obj (.mapo (aA3 es n v.drop1)))else none
  |_=>none
 | .mapp id, .agg [.int .i64 a, .int .i64 b, .int .i64 c]=>match H[id]? with
  |some (.obj (.mapg es clk))=>if(rC P t).isSome=true then some (id, .obj (.mapg (sE es clk (a,b,c) v.drop1) (vS es clk (a,b,c))))else none
  |_=>none
 |_,_=>none
def fN(P:Program)(mt:Bool)(fresh:Nat)(T:Nat->PV)(H:List AObj):Op->Option (PV×pK)
 | .move x| .assign x=>some (bS T x,none)
 | .pick c a b=>match bS T c with
  | .bool c=>some (if c then bS T a else bS T b,none)
  |_=>none
 | .alloc e=>(cA P e).bind λz=>if z.isJunk then none else some (.optr fresh 0,some (fresh, .row z.cells))
 | .box e x=>if(bS T x).isJunk then none else some (.optr fresh 0,some (fresh, .row (bS T x).cells))
 | .build t ps=>(kO P t).bind λfl=>(cA P t).bind λz=>if z.isJunk then none else(oG fl T z.cells ps.toList).bind λcs=>some (.agg cs,none)
 | .buildSlice t n ps=>(cJ P t).bind λei=>(cA P ei.1).bind λz=>
   if z.fits ei.2=true/\0<ei.2.sz/\n*ei.2.sz<=2^24 then(mE ei.2 T (aNb n z) ps.toList).bind λes=>some (.slice es .full,none)else none
 | .load t a=>(bZ P t).bind λi=>(jK i H (bS T a)).bind pZ
 | .store t a v=>(bZ P t).bind λi=>(nS i H (bS T a) (bS T v)).bind λe=>some (.junk,some e)
 | .nilCheck x=>match bS T x with
  | .optr id o=>some (.optr id o,none)
  | .iptr cs=>some (.iptr cs,none)
  |_=>none
 | .binOp op xt x y _=>(eC P op xt (bS T x) (bS T y)).bind pZ
 | .unOp op _ x=>(aun op (bS T x)).bind pZ
 | .convert s d x=>match bS T x,AG P d with
  | .int _ n,some k=>if(AG P s).isSome then some (.int k (k.wrap n),none)else none
  |_,_=>none
 | .makeFunc f first caps=>some (.fn f (first.toList.map λx=>(bS T x).drop1) (caps.toList.map λx=>(bS T x).drop1),none)
 | .makeSlice t l c=>(cJ P t).bind λei=>(cA P ei.1).bind λz=>mJ mt z ei.2 fresh (bS T l) (bS T c)
 | .slice t x lo hi mx=>(lP P T t (bS T x) lo hi mx).bind pZ
 | .fieldAddr s x f=>(kO P s).bind λfl=>(tF fl f (bS T x)).bind pZ
 | .field s x f=>(kO P s).bind λfl=>(XA fl f (bS T x)).bind pZ
 | .indexAddr t x i=>(cJ P t).bind λei=>(mW ei (bS T x) (bS T i)).bind pZ
 | .index t x i=>match bS T x with
  | .str s=>if LW P t then(zY (bS T i) s.length).bind λk=>(s[k]?).bind λb=>some (.int .u8 b.toNat,none)else none
  |_=>none
 | .extract t i=>match bS T t with
  | .tup vs=>(vs[i]?).bind pZ
  |_=>none
 | .lookup t x k ok=>(cD P H t (bS T x) (bS T k) ok).bind pZ
 | .mapUpdate t x k v=>(dG P H t (bS T x) (bS T k) (bS T v)).bind λe=>some (.junk,some e)
 | .makeMap t none=>if(rC P t).isSome=true then some (.mapp fresh,some (fresh, .obj (.mapg [] 0)))else(aAm P t).bind λ_=>some (.mapp fresh,some (fresh, .obj (.mapo [])))
 | .call c=>match c.callee with
  | .builtin b=>dA P fresh T H b c.args.toList c.argTypes.toList
  |_=>none
 |_=>none
theorem BM{P:Program}{w:World}:(program).run P w= .ok P w:=rfl
theorem aP{P:Program}{w:World}{t:TypeId}{d:TypeDesc}(h:P.underlying t=some d):(underlying t).run P w= .ok d w:=by
 simp only[underlying,aM9,BM,aNa,h,aNc]
theorem mQ{P:Program}{w:World}{t:TypeId}{i:TypeInfo}(h:P.info? t=some i):(typeInfo t).run P w= .ok i w:=by
 simp only[typeInfo,aM9,BM,aNa,h,aNc]
theorem cQ{P:Program}{w:World}{t:TypeId}{i:TypeInfo}(h:P.info? t=some i):(sizeOf t).run P w= .ok i.size w:=by
 simp only[sizeOf,aM9,mQ h,aNa,aNc]
theorem jF{P:Program}{w:World}{t:TypeId}{i:TypeInfo}{z:Value}(h:P.info? t=some i)(hz:i.zero=some z):(zeroValue t).run P w= .ok z w:=by
 simp only[zeroValue,aM9,mQ h,aNa,hz,aNc]
theorem AN{P:Program}{w:World}{t:TypeId}{d:TypeDesc}(h:P.underlying t=some d):(isAgg t).run P w= .ok (DO d) w:=by
 simp only[isAgg,aM9,aP h,aNa];cases d<;>rfl
theorem cC{P:Program}{t:TypeId}{i:TI}(h:bZ P t=some i):∃d f,P.underlying t=some d/\P.info? t=some f/\i=⟨DO d,f.size,f.bytes⟩:=by
 unfold bZ at h
 split at h
 ·rename_i d f h1 h2;exact⟨d,f,h1,h2,by cases h;rfl⟩
 ·cases h
theorem eU{P:Program}{t:TypeId}{z:PV}(h:cA P t=some z):∃f v,P.info? t=some f/\f.zero=some v/\z=aW v:=by
 unfold cA at h;cases h1:P.info? t with
 |none=>rw[h1]at h;cases h
 |some f=>
  rw[h1]at h;cases h2:f.zero with
  |none=>simp[h2]at h
  |some v=>simp[h2]at h;exact⟨f,v,rfl,h2,h.symm⟩
theorem cS{P:Program}{t e:TypeId}{i:TI}(h:cJ P t=some (e,i)):P.underlying t=some (.slice e)/\bZ P e=some i:=by
 unfold cJ at h
 split at h
 ·rename_i e' h1;cases h2:bZ P e' with
  |none=>simp[h2]at h
  |some j=>simp[h2]at h;obtain⟨rfl,rfl⟩:=h;exact⟨h1,h2⟩
 ·cases h
structure gT(P:Program)(E:aK)(s:Sem Next)(v:PV)(e:pK):Prop where
 out:∃E' val,(s.run P E.w= .ok (.value val) E'.w\/(s.run P E.w= .ok .skip E'.w/\val=undef))/\E.le E'/\E'.Ok/\E'.H=e.app E.H/\aQ E'.view val v
theorem gT.val{P:Program}{E:aK}(h:E.Ok){s:Sem Next}{val:Value}{v:PV}(hs:s.run P E.w= .ok (.value val) E.w)(hv:aQ E.view val v):gT P E s v none:=
 ⟨E,val, .inl hs, .refl E,h,rfl,hv⟩
theorem sK{V:cG}{arr:Array Value}{cs:List PV}(hr:∀i (h:i<cs.length),aQ V (arr.getD i undef) cs[i]):
  ∀i (h:i<(cs.map PV.drop1).length),aQ V (arr.getD i undef) (cs.map PV.drop1)[i]:=by
 intro i h;simp only[aMm];exact(hr i (by simpa using h)).drop1
inductive Cells(E:aK):Addr->List PV->Prop
 |row {id off:Nat} {cs:List PV} (h:E.H[id]? =some (.row cs)):Cells E ⟨E.ρ id,off,none⟩ (cs.drop off)
 |imm {a:Addr} {cs:List PV} (h:aQ E.view (.pointer (some a)) (.iptr cs)):Cells E a cs
theorem Cells.get{E:aK}(ho:E.Ok){a:Addr}{cs:List PV}(h:Cells E a cs):∀j (hj:j<cs.length),∃v,E.w.cell? (a.add j)=some v/\aQ E.view v cs[j]:=by
 intro j hj;cases h with
 | @row id off cs h=>
  obtain⟨arr,elem,h1,h2,h3,h4⟩:=ho.rows id _ h;simp only[aNd]at hj;refine⟨arr.getD (off+j) undef, ?_, ?_⟩
  ·rw[dH,kF h1,aMt,aMy z8];rfl
  ·rw[List.getElem_drop];exact h3 _ _
 |imm h=>
  cases h with
  |iptr _ _ vs hc hr=>exact⟨vs j,aK.cell_stable (hc j hj),hr j hj⟩
theorem Cells.loadCells{P:Program}{E:aK}(ho:E.Ok){a:Addr}{cs:List PV}(h:Cells E a cs){n:Nat}(hn:n<=cs.length):
  ∃arr,(loadCells a n).run P E.w= .ok arr E.w/\arr.size=n/\∀i (h:i<(cs.take n).length),aQ E.view (arr.getD i undef) (cs.take n)[i]:=by
 let f:Nat->Value:=λj=>(E.w.cell? (a.add j)).getD undef
 have hf:∀j,j<n->E.w.cell? (a.add j)=some (f j):=by
  intro j hj;obtain⟨v,hv,_⟩:=h.get ho j z8;simp only[f,hv,aMz]
 refine⟨_,run_loadCells E.w a n f hf,zz,λi hi=> ?_⟩;simp only[aNe]at hi;obtain⟨v,hv,hr⟩:=h.get ho i z8;rw[List.getElem_take,aMt];simp only[aNf,aNg,List.getElem?_range (by omega:i<n),aM6,aMz];have:f i=v:=by simp only[f,hv,aMz]
 rw[this];exact hr
theorem Cells.loadVar{P:Program}{E:aK}(ho:E.Ok){a:Addr}{cs:List PV}(h:Cells E a cs){t:TypeId}{i:TI}(hi:bZ P t=some i):
  (i.agg=true->i.sz<=cs.length->∃arr,(loadVar t a).run P E.w= .ok (.agg arr) E.w/\aQ E.view (.agg arr) (.agg (cs.take i.sz)))/\
  (i.agg=false->∀p,cs[0]? =some p->∃v,(loadVar t a).run P E.w= .ok v E.w/\aQ E.view v p):=by
 obtain⟨d,f,h1,h2,rfl⟩:=cC hi;constructor
 ·intro hagg hsz;simp only at hagg hsz;obtain⟨arr,e1,e2,e3⟩:=h.loadCells (P:=P) ho hsz;refine⟨arr, ?_, .agg _ _ (by rw[e2];simp;omega) e3⟩;simp only[Go.loadVar,aM9,AN h1,aNa,hagg,if_true,cQ h2,e1,aNc]
 ·intro hagg p hp;simp only at hagg;have hl:0<cs.length:=by
   rcases Nat.eq_zero_or_pos cs.length with e|e
   ·rw[aM2 z8]at hp;cases hp
   ·exact e
  obtain⟨v,hv,hr⟩:=h.get ho 0 hl;rw[yR]at hv;refine⟨v, ?_, ?_⟩
  ·simp only[Go.loadVar,aM9,AN h1,aNa,hagg,aNh,if_false,run_load,hv]
  ·rw[aNi hl]at hp;cases hp;exact hr
theorem aQ.optr_inv{V:cG}{v:Value}{id off:Nat}(h:aQ V v (.optr id off)):v= .pointer (some ⟨V.rho id,off,none⟩)/\V.born id:=by
 cases h;exact⟨rfl,‹_›⟩
section ops
variable{P:Program}{E:aK}{N:Nat}{a:Act}{T:Nat->PV}(ho:E.Ok)(ht:eR E.view N a T)
include ho ht
theorem AZ{t:TypeId}{x:Operand}(hx:aU N x=true){i:TI}(hi:bZ P t=some i){v:PV}(hv:jK i E.H (bS T x)=some v):
  ∃val,(Instr.loadAt t (a.eval x)).run P E.w= .ok val E.w/\aQ E.view val v:=by
 have hr:=aN ht x hx;generalize a.eval x=ax at hr;generalize bS T x=px at hr hv;unfold jK at hv
 split at hv
 ·rename_i id off;obtain⟨rfl,hb⟩:=hr.optr_inv
  split at hv
  ·rename_i cs hcs;have hc:Cells E ⟨E.ρ id,off,none⟩ (cs.drop off):=.row hcs;obtain⟨h1,h2⟩:=hc.loadVar (P:=P) ho hi
   split at hv
   ·rename_i hagg
    split at hv
    ·rename_i hl;cases hv;obtain⟨arr,e1,e2⟩:=h1 hagg (by simp;omega);refine⟨_,by simpa[Instr.loadAt,Instr.sureAddr,aK.view]using e1, ?_⟩;cases e2 with
     |agg _ _ hl hr=>exact .agg _ _ (by simpa using hl) (sK hr)
    ·cases hv
   ·rename_i hagg;obtain⟨v',e1,e2⟩:=h2 (by simpa using hagg) v (by rw[List.getElem?_drop];simpa using hv);exact⟨_,by simpa[Instr.loadAt,Instr.sureAddr,aK.view]using e1,e2⟩
  ·cases hv
 ·rename_i cs;cases hr with
  |iptr ad cs vs hc hr=>
   have hcl:Cells E ad cs:=.imm (.iptr ad cs vs hc hr);obtain⟨h1,h2⟩:=hcl.loadVar (P:=P) ho hi
   split at hv
   ·rename_i hagg
    split at hv
    ·rename_i hl;cases hv;obtain⟨arr,e1,e2⟩:=h1 hagg hl;exact⟨_,by simpa[Instr.loadAt,Instr.sureAddr]using e1,e2⟩
    ·cases hv
   ·rename_i hagg;obtain⟨v',e1,e2⟩:=h2 (by simpa using hagg) v hv;exact⟨_,by simpa[Instr.loadAt,Instr.sureAddr]using e1,e2⟩
 ·cases hv
end ops
theorem aQ.isCell{V:cG}{v:Value}{p:PV}(h:aQ V v p)(hp:p.isCell=true):Value.isCell v=true:=by
 cases h<;>first|rfl| (simp[PV.isCell]at hp;done)
theorem aQ.not_junk_cells{V:cG}{v:Value}{p:PV}(h:aQ V v p)(hj:p.isJunk=false):
  v.cells.size=p.cells.length/\∀i (h:i<p.cells.length),aQ V (v.cells.getD i undef) (p.cells[i]):=
 h.cells (by rintro rfl;cases hj)
theorem GX{H:List AObj}{id:Nat}{a b:AObj}:(H.set id a).set id b=H.set id b:=by
 simp
theorem DV{H:List AObj}{id:Nat}{o:AObj}(h:H[id]? =some o):H.set id o=H:=by
 apply List.ext_getElem?;intro j
 by_cases e:id=j
 ·subst e;have hl:id<H.length:=by
   rcases aMo id H.length with hl|hl
   ·exact hl
   ·rw[aM2 hl]at h;cases h
  rw[aM4 hl,h]
 ·rw[aM5 e]
theorem lG{α:Type}{H:List α}{id:Nat}{o:α}(h:H[id]? =some o):id<H.length:=by
 rcases aMo id H.length with hl|hl
 ·exact hl
 ·rw[aM2 hl]at h;cases h
theorem rF{P:Program}{id off:Nat}:∀(vs:List Value) (ps:List PV) (i:Nat) (E:aK) (cs:List PV),E.Ok->E.H[id]? =some (.row cs)->vs.length=ps.length->
  (∀j (h:j<ps.length),aQ E.view (vs.getD j undef) ps[j])->ps.all PV.isCell=true->off+i+vs.length<=cs.length->
  ∃E',(storeCells ⟨E.ρ id,off,none⟩ vs i).run P E.w= .ok () E'.w/\E.le E'/\E'.Ok/\E'.H=E.H.set id (.row (dR cs (off+i) ps))
 | [],ps,i,E,cs,ho,hi,hl,hr,hc,hb=>by
  obtain rfl:ps= []:=by cases ps with|nil=>rfl|cons _ _=>simp at hl
  exact⟨E,rfl, .refl E,ho,by rw[dR,DV hi]⟩
 |v::vs,ps,i,E,cs,ho,hi,hl,hr,hc,hb=>by
  match ps,hl with
  |p::ps,hl=>
   simp only[aM7]at hl hb hr;have hv:aQ E.view v p:=hr 0 z8;simp only[aMi,aMj]at hc;obtain⟨arr,elem,h1,h2,h3,h4⟩:=ho.rows id cs hi;have hle:=aK.setRow_le ho hi (off+i) (v:=v) (p:=p);have hok:=aK.Ok.setRow ho hi (off+i) hv;have hrun:(store ((⟨E.ρ id,off,none⟩:Addr).add i) v).run P E.w= .ok () (E.setRow id (off+i) v cs p).w:=by
    rw[CW (hv.isCell hc.1) ⟨arr[off+i]'z8, ?_⟩ ?_]
    ·rw[dH];rfl
    ·rw[dH,kF h1,aMy]
    ·rw[dH];exact CH h1
   obtain⟨E',e1,e2,e3,e4⟩:=rF (P:=P) (id:=id) (off:=off) vs ps (i+1) (E.setRow id (off+i) v cs p) (cs.set (off+i) p) hok
    (by simp only[aK.setRow];exact aM4 (lG hi)) z8
    (λj hj=>by have:=hr (j+1) z8;simp only[List.getD_cons_succ,List.getElem_cons_succ]at this;exact this.mono hle.view) hc.2 (by simp;omega)
   refine⟨E', ?_,hle.trans e2,e3, ?_⟩
   ·simp only[storeCells,aM9,hrun,aNa];exact e1
   ·rw[e4];simp only[aK.setRow,GX,dR,Nat.add_assoc]
section ops
variable{P:Program}{E:aK}{N:Nat}{a:Act}{T:Nat->PV}(ho:E.Ok)(ht:eR E.view N a T)
include ho ht
theorem KN{t:TypeId}{x y:Operand}(hx:aU N x=true)(hy:aU N y=true){i:TI}(hi:bZ P t=some i){e:Nat×AObj}
  (hv:nS i E.H (bS T x) (bS T y)=some e):
  ∃E',(Instr.storeAt t (a.eval x) (a.eval y)).run P E.w= .ok () E'.w/\E.le E'/\E'.Ok/\E'.H=E.H.set e.1 e.2:=by
 have hr:=aN ht x hx;have hr':=aN ht y hy;generalize a.eval x=ax at hr;generalize bS T x=px at hr hv;generalize a.eval y=ay at hr';generalize bS T y=py at hr' hv;unfold nS at hv
 split at hv
 ·rename_i id off;obtain⟨rfl,hb⟩:=hr.optr_inv
  split at hv
  ·rename_i cs hcs
   split at hv
   ·rename_i hl;obtain⟨hl1,hl2,hl3⟩:=hl;cases hv;obtain⟨d,f,h1,h2,rfl⟩:=cC hi;simp only at hl1 hl2;have hj:py.isJunk=false:=by
     cases py<;>first|rfl| (simp[PV.cells,PV.isCell]at hl3;done)
    obtain⟨c1,c2⟩:=hr'.not_junk_cells hj;obtain⟨E',e1,e2,e3,e4⟩:=rF (P:=P) (id:=id) (off:=off) ay.cells.toList py.cells 0 E cs ho hcs (by simpa using c1)
     (λj hj=>by
      have:=c2 j hj;rw[aMt]at this;rw[aNj,aNk];exact this) hl3 (by simp[c1];omega)
    refine⟨E', ?_,e2,e3,by rw[e4];rfl⟩;simp only[Instr.storeAt,Instr.sureAddr,aM9,aNc,aNa,storeVar,cQ h2];rw[if_neg (by rw[c1];simp[hl2])];exact e1
   ·cases hv
  ·cases hv
 ·cases hv
omit ht in
theorem KD{t:TypeId}{fresh:Nat}(hf:E.H[fresh]? =some .unborn){z:PV}(hz:cA P t=some z)(hj:z.isJunk=false):
  ∃E' val,(Instr.alloc t true (.tuple #[])).run P E.w= .ok val E'.w/\E.le E'/\E'.Ok/\E'.H=E.H.set fresh (.row z.cells)/\aQ E'.view val (.optr fresh 0):=by
 obtain⟨f,v,h1,h2,rfl⟩:=eU hz;obtain⟨c1,c2⟩:=(dP E.view v).not_junk_cells hj;refine⟨E.newRow fresh v.cells t (aW v).cells, .pointer (some ⟨E.w.heap.size,0,none⟩), ?_,aK.newRow_le ho hf _ _ _,aK.Ok.newRow ho hf _ _ _ c1 c2,rfl, ?_⟩
 ·simp only[Instr.alloc,aM9,jF h1 h2,aNa,newVar,newRow,run_newObj,aNc];rfl
 ·have:=aQ.optr (V:=(E.newRow fresh v.cells t (aW v).cells).view) fresh 0 ⟨.row (aW v).cells,by simp only[aK.newRow];exact aM4 (lG hf),zz⟩;simpa[aK.view,aK.newRow]using this
theorem TB{t:TypeId}{fresh:Nat}(hf:E.H[fresh]? =some .unborn){x:Operand}(hx:aU N x=true)(hj:(bS T x).isJunk=false):
  ∃E' val,(Instr.box t (a.eval x)).run P E.w= .ok val E'.w/\E.le E'/\E'.Ok/\E'.H=E.H.set fresh (.row (bS T x).cells)/\aQ E'.view val (.optr fresh 0):=by
 have hr:=aN ht x hx;generalize a.eval x=v at hr;generalize bS T x=p at hr hj;obtain⟨c1,c2⟩:=hr.not_junk_cells hj;refine⟨E.newRow fresh v.cells t p.cells, .pointer (some ⟨E.w.heap.size,0,none⟩), ?_,aK.newRow_le ho hf _ _ _,aK.Ok.newRow ho hf _ _ _ c1 c2,rfl, ?_⟩
 ·simp only[Instr.box,aM9,aNa,newVar,newRow,run_newObj,aNc];rfl
 ·have:=aQ.optr (V:=(E.newRow fresh v.cells t p.cells).view) fresh 0 ⟨.row p.cells,by simp only[aK.newRow];exact aM4 (lG hf),zz⟩;simpa[aK.view,aK.newRow]using this
end ops
def RL(V:cG)(arr:Array Value)(cs:List PV):Prop:=arr.size=cs.length/\∀i (h:i<cs.length),aQ V (arr.getD i undef) cs[i]
theorem RL.set{V:cG}{arr:Array Value}{cs:List PV}(h:RL V arr cs)(k:Nat){v:Value}{p:PV}(hv:aQ V v p):RL V (arr.setIfInBounds k v) (cs.set k p):=by
 refine⟨by simp[h.1],λi hi=> ?_⟩;simp only[lS]at hi;rw[aMt]
 by_cases e:k=i
 ·subst e;rw[aMu (by rw[h.1];exact hi)];simpa using hv
 ·rw[aMv e,List.getElem_set_ne e,<-aMt];exact h.2 i hi
theorem oS{V:cG}:∀(vs:List Value) (ps:List PV) (off s:Nat) (arr:Array Value) (cs:List PV),RL V arr cs->vs.length=ps.length->(∀j (h:j<ps.length),aQ V (vs.getD j undef) ps[j])->
  RL V ((vs.zipIdx s).foldl (λcs (c,j)=>cs.setIfInBounds (off+j) c) arr) (dR cs (off+s) ps)
 | [],ps,off,s,arr,cs,h,hl,hr=>by
  obtain rfl:ps= []:=by cases ps with|nil=>rfl|cons _ _=>simp at hl
  exact h
 |v::vs,ps,off,s,arr,cs,h,hl,hr=>by
  match ps,hl with
  |p::ps,hl=>
   simp only[aM7]at hl hr;simp only[List.zipIdx_cons,List.foldl_cons,dR];have:=oS vs ps off (s+1) (arr.setIfInBounds (off+s) v) (cs.set (off+s) p) (h.set _ (hr 0 z8)) z8
    (λj hj=>by have:=hr (j+1) z8;simpa using this)
   rw[<-Nat.add_assoc]at this;exact this
theorem BJ{P:Program}{w:World}:∀(fs:List Field) (fl:List (Nat×TI)),(fs.mapM λf=>(bZ P f.type).map λi=>(f.offset,i))=some fl->(fs.mapM (m:=Sem) λf=>do pure (f.offset,<-sizeOf f.type)).run P w= .ok (fl.map λx=>(x.1,x.2.sz)) w
  | [],fl,h=>by
    simp at h;subst h;rfl
  |f::fs,fl,h=>by
    rw[List.mapM_cons]at h⊢;cases h1:bZ P f.type with
    |none=>rw[h1]at h;simp at h
    |some i=>
      cases h2:fs.mapM λf=>(bZ P f.type).map λi=>(f.offset,i)with
      |none=>rw[h1]at h;simp[h2]at h
      |some fl'=>
        rw[h1]at h;simp[h2]at h;subst h;have ih:=BJ (w:=w) fs fl' h2;obtain⟨d,g,e1,e2,rfl⟩:=cC h1;simp only[aM9,cQ e2,aNa,aNc,ih,aNl]
theorem BT{P:Program}{t:TypeId}{fl:List (Nat×TI)}(h:kO P t=some fl):∃fs,P.underlying t=some (.struct fs)/\(fs.toList.mapM λf=>(bZ P f.type).map λi=>(f.offset,i))=some fl:=by
  unfold kO at h
  split at h
  · rename_i fs h1;exact⟨fs,h1,h⟩
  · cases h
section ops
variable{P:Program}{E:aK}{N:Nat}{a:Act}{T:Nat->PV}(ht:eR E.view N a T)
include ht in
theorem CD(fl:List (Nat×TI)):∀(ps:List (Nat×Operand)) (arr:Array Value) (cs cs':List PV),RL E.view arr cs->ps.all (λx=>aU N x.2)=true->oG fl T cs ps=some cs'->∃arr',Instr.fill ((fl.map λx=>(x.1,x.2.sz)).toArray[·]?) arr (ps.map λ(i,x)=>(i,a.eval x))=some arr'/\RL E.view arr' cs'
  | [],arr,cs,cs',h,_,hb=>by cases hb;exact⟨arr,rfl,h⟩
  | (f,x)::rest,arr,cs,cs',h,hok,hb=>by
    simp only[aMi,aMj]at hok;unfold oG at hb
    split at hb
    · rename_i off i hf
      split at hb
      · rename_i hc
        obtain⟨hc1,hc2,hc3⟩:=hc;have hr:=aN ht x hok.1;obtain⟨c1,c2⟩:=hr.not_junk_cells hc1;have h':=oS (V:=E.view) (a.eval x).cells.toList ((bS T x).cells.map PV.drop1) off 0 arr cs h (by simp[c1]) (λj hj=>by
          have:=c2 j (by simpa using hj);rw[aMt]at this;rw[aNj,aNk];simp only[aMm];exact this.drop1)
        rw[aNm]at h';obtain⟨arr',e1,e2⟩:=CD fl rest _ _ cs' h' hok.2 hb;refine⟨arr', ?_,e2⟩;simp only[aNl,Instr.fill];simp only[aNf,aNg,hf,aM6];rw[if_neg]
        · rw[<-e1]
          simp only[aNf,aNg];congr 1;rw[<-Array.foldl_toList,Array.toList_zipIdx]
        · have c3:(a.eval x).cells.size=i.sz:=c1.trans hc2
          have c4:=h.1;rw[c3,c4];simp;omega
      · cases hb
    · cases hb
include ht in
theorem NC{t:TypeId}{ps:Array (Nat×Operand)}(hok:ps.toList.all (λx=>aU N x.2)=true){fl:List (Nat×TI)}(hf:kO P t=some fl){z:PV}(hz:cA P t=some z)(hj:z.isJunk=false){cs:List PV}(hb:oG fl T z.cells ps.toList=some cs):∃val,(Instr.build t (ps.map λ(i,x)=>(i,a.eval x))).run P E.w= .ok val E.w/\aQ E.view val (.agg cs):=by
  obtain⟨fs,h1,h2⟩:=BT hf;obtain⟨f,v,h3,h4,rfl⟩:=eU hz;have hr:=BJ (P:=P) (w:=E.w) fs.toList fl h2;obtain⟨c1,c2⟩:=(dP E.view v).not_junk_cells hj;obtain⟨arr',e1,e2⟩:=CD ht fl ps.toList v.cells (aW v).cells cs ⟨c1,c2⟩ hok hb;refine⟨.agg arr', ?_, .agg _ _ e2.1 e2.2⟩;simp only[Instr.build,aM9,jF h3 h4,aNa,aP h1,Array.mapM_eq_mapM_toList,Sem.run_map,hr,Array.toList_map];simp only[e1,aNc]
end ops
theorem PV.fits_spec{i:TI}{p:PV}(h:p.fits i=true):p.cells.length=i.sz/\p.isJunk=false:=by
  unfold PV.fits at h;simp only[aMj,decide_eq_true_eq]at h;refine⟨h.1, ?_⟩;cases p<;>first|rfl| (simp at h;done)
theorem PV.drop1_cells_length(p:PV):p.drop1.cells.length=p.cells.length:=by
  cases p<;>first|rfl|simp[PV.drop1,PV.cells]
theorem PV.drop1_isJunk(p:PV):p.drop1.isJunk=p.isJunk:=by cases p<;>rfl
theorem aQ.drop1_cells{V:cG}{v:Value}{p:PV}(h:aQ V v p)(hj:p.isJunk=false):v.cells.size=p.drop1.cells.length/\∀i (h:i<p.drop1.cells.length),aQ V (v.cells.getD i undef) (p.drop1.cells[i]):=
  h.drop1.not_junk_cells (by rw[PV.drop1_isJunk];exact hj)
def aL(es:List PV):List PV:=(es.map PV.cells).flatten
theorem lN{sz:Nat}:∀(es:List PV),(∀e∈es,e.cells.length=sz)->∀i j,(hi:i<es.length)->(hj:j<sz)->(aL es)[i*sz+j]? =(es[i].cells)[j]?
  | [],_,i,j,hi,_=>absurd hi zz
  |e::es,h,i,j,hi,hj=>by
    have he:=h e zz;simp only[aL,aNl,List.flatten_cons];cases i with
    |zero=>simp only[Nat.zero_mul,aNn,aMn];rw[aM0 z8]
    |succ i=>
      rw[aM1 (by rw[he,Nat.succ_mul];omega),he];have:=lN (sz:=sz) es (λx hx=>h x (by simp[hx])) i j (by simpa using hi) hj;rw[show(i+1)*sz+j-sz=i*sz+j by rw[Nat.succ_mul];omega];simpa[aL]using this
theorem cE{sz:Nat}:∀(es:List PV),(∀e∈es,e.cells.length=sz)->(aL es).length=es.length*sz
  | [],_=>by simp[aL]
  |e::es,h=>by
    have he:=h e zz;have:=cE (sz:=sz) es (λx hx=>h x (by simp[hx]));simp only[aL,aNl,List.flatten_cons,aNo,aM7]at this⊢;rw[this,he,Nat.succ_mul];omega
theorem DI(sz:Nat):∀(vs cs:List PV) (off k:Nat),off+vs.length<=cs.length->(dR cs off vs)[k]? =if off<=k/\k<off+vs.length then vs[k-off]? else cs[k]?
  | [],cs,off,k,_=>by rw[dR,if_neg zz]
  |v::vs,cs,off,k,h=>by
    simp only[aM7]at h;rw[dR,DI sz vs _ (off+1) k (by simp;omega)]
    by_cases e:k=off
    · subst e
      rw[if_neg z8,if_pos zz,aM4 z8];simp
    · by_cases c:off+1<=k/\k<off+1+vs.length
      · rw[if_pos c,if_pos (by simp only[aM7];omega),show k-off=(k- (off+1))+1 by omega,aM8]
      · rw[if_neg c,if_neg (by simp only[aM7];omega),aM5 (λq=>e q.symm)]
theorem wY{sz:Nat}(es:List PV)(h:∀e∈es,e.cells.length=sz)(k:Nat)(hk:k<es.length)(v:PV)(hv:v.cells.length=sz):dR (aL es) (k*sz) v.cells=aL (es.set k v):=by
  have hfl:=cE es h;have h':∀e∈es.set k v,e.cells.length=sz:=by
    intro e he;rcases List.mem_or_eq_of_mem_set he with he|rfl
    · exact h e he
    · exact hv
  have hfl':=cE _ h';have hks:(k+1)*sz<=es.length*sz:=aNp _ hk;rw[Nat.succ_mul]at hks;apply List.ext_getElem?;intro n;rw[DI sz _ _ _ _ (by rw[hfl,hv];omega),hv]
  by_cases hn:n<es.length*sz
  · have hsz:0<sz:=by
      rcases Nat.eq_zero_or_pos sz with e|e; · subst e;simp at hn
      · exact e
    have hq:n/sz<es.length:=(Nat.div_lt_iff_lt_mul hsz).2 hn;have hm:=Nat.mod_lt n hsz;have hdm:n=n/sz*sz+n%sz:=by rw[Nat.mul_comm];exact(Nat.div_add_mod n sz).symm
    have g2:=lN (es.set k v) h' (n/sz) (n%sz) (by simpa using hq) hm;rw[<-hdm]at g2;rw[g2]
    by_cases e:n/sz=k
    · subst e
      rw[if_pos z8];simp only[List.getElem_set_self];congr 1;omega
    · rw[if_neg]
      · have g1:=lN es h (n/sz) (n%sz) hq hm
        rw[<-hdm]at g1;rw[g1,List.getElem_set_ne (λq=>e q.symm)]
      · rintro⟨q1,q2⟩
        apply e;apply Nat.le_antisymm
        · rw[<-Nat.lt_succ_iff];exact(Nat.div_lt_iff_lt_mul hsz).2 (by rw[Nat.succ_mul];omega)
        · exact(Nat.le_div_iff_mul_le hsz).2 q1
  · rw[if_neg z8,aM2 z8,aM2 (by rw[hfl',lS];omega)]
theorem qZ{V:cG}{b n:Nat}{arr:Array Value}{es:List PV}{sz:Nat}(hcell:∀k,k<arr.size->V.cell ⟨b,k,none⟩=some (arr.getD k undef))(hes:∀e∈es,e.cells.length=sz)(hrl:RL V arr (aL es))(hn:es.length=n)(hm:n<=maxLen):aQ V (.slice (some ⟨b,0,none⟩) n n) (.slice es .full):=by
  have hfl:=cE es hes;refine .slice _ n n sz es .full (λi j=>arr.getD (i*sz+j) undef) hn (aMq _) hm (λi h=>hes _ (aNq h)) ?_ ?_ rfl
  · intro i j hi hj
    rw[dH,aNn];apply hcell;rw[hrl.1,hfl];have:(i+1)*sz<=es.length*sz:=aNp _ z8;rw[Nat.succ_mul]at this;omega
  · intro i j hi hj
    have hl:=hes _ (aNq hi);have hj':j<sz:=z8
    have hk:i*sz+j<(aL es).length:=by
      rw[hfl];have:(i+1)*sz<=es.length*sz:=aNp _ z8;rw[Nat.succ_mul]at this;omega
    have h1:=hrl.2 _ hk;have h2:=lN es hes i j hi hj';rw[aNi hk,aNi hj]at h2;simp only[Option.some.injEq]at h2;rw[h2]at h1;exact h1
theorem RL.mono{V V':cG}(h:V.le V'){arr cs}(r:RL V arr cs):RL V' arr cs:=⟨r.1,λi hi=>(r.2 i hi).mono h⟩
theorem vA{E:aK}{arr:Array Value}{elem:TypeId}:∀k,k<arr.size->(E.newFixed (.cells arr elem)).view.cell ⟨E.w.heap.size,k,none⟩=some (arr.getD k undef):=by
  intro k hk;refine aK.cell_of (by simp[aK.newFixed,rN.stable]) ?_;have:(E.newFixed (.cells arr elem)).w.heap[E.w.heap.size]? =some (.cells arr elem (0,0)):=heap_alloc_new _ _;rw[kF this,aMt,aMy hk];rfl
theorem oL{V:cG}(z:Value)(hj:(aW z).isJunk=false)(n:Nat):RL V ((Array.range (n*z.cells.size)).map (z.cells[· %z.cells.size]!)) (aL (aNb n (aW z))):=by
  obtain⟨c1,c2⟩:=(dP V z).not_junk_cells hj;have hes:∀e∈aNb n (aW z),e.cells.length=z.cells.size:=by
    intro e he;rw[(List.mem_replicate.1 he).2,c1]
  have hfl:=cE _ hes;rw[List.length_replicate]at hfl;refine⟨by simp[hfl],λk hk=> ?_⟩;rw[hfl]at hk;have hsz:0<z.cells.size:=by
    rcases Nat.eq_zero_or_pos z.cells.size with e|e
    · rw[e]at hk;simp at hk
    · exact e
  have hq:k/z.cells.size<n:=(Nat.div_lt_iff_lt_mul hsz).2 hk;have hm:=Nat.mod_lt k hsz;have g:=lN _ hes (k/z.cells.size) (k%z.cells.size) (by simpa using hq) hm;rw[show k/z.cells.size*z.cells.size+k%z.cells.size=k by rw[Nat.mul_comm];exact Nat.div_add_mod k _]at g;have hk':k<(aL (aNb n (aW z))).length:=by rw[hfl];exact hk
  simp only[List.getElem_replicate]at g;rw[aNi hk',aNi (by rw[<-c1];exact hm)]at g;simp only[Option.some.injEq]at g;rw[g];have:=c2 _ (by rw[<-c1];exact hm);rw[aMt]at this⊢;simp only[Array.getElem?_map,Array.getElem?_range,if_pos hk];simp only[aM6,aMz];rw[getElem!_pos z.cells _ hm];rw[aMy hm]at this;exact this
section ops
variable{P:Program}{E:aK}{N:Nat}{a:Act}{T:Nat->PV}(ht:eR E.view N a T)
include ht in
theorem zL(i:TI):∀(ps:List (Nat×Operand)) (arr:Array Value) (es es':List PV),RL E.view arr (aL es)->(∀e∈es,e.cells.length=i.sz)->ps.all (λx=>aU N x.2)=true->mE i T es ps=some es'->∃arr',Instr.fill (λk=>some (k*i.sz,i.sz)) arr (ps.map λ(i,x)=>(i,a.eval x))=some arr'/\RL E.view arr' (aL es')/\(∀e∈es',e.cells.length=i.sz)/\es'.length=es.length
  | [],arr,es,es',h,hs,_,hb=>by cases hb;exact⟨arr,rfl,h,hs,rfl⟩
  | (k,x)::rest,arr,es,es',h,hs,hok,hb=>by
    simp only[aMi,aMj]at hok;unfold mE at hb
    split at hb
    · rename_i hc
      obtain⟨hc1,hk⟩:=hc;obtain⟨hc2,hc3⟩:=PV.fits_spec hc1;have hr:=aN ht x hok.1;obtain⟨c1,c2⟩:=hr.drop1_cells hc3;have c3:(a.eval x).cells.size=i.sz:=by rw[c1,PV.drop1_cells_length,hc2]
      have hdl:(bS T x).drop1.cells.length=i.sz:=by rw[PV.drop1_cells_length,hc2]
      have h':=oS (V:=E.view) (a.eval x).cells.toList (bS T x).drop1.cells (k*i.sz) 0 arr (aL es) h (by simp[c1]) (λj hj=>by
        have:=c2 j hj;rw[aMt]at this;rw[aNj,aNk];exact this)
      rw[aNm,wY es hs k hk _ hdl]at h';have hs':∀e∈es.set k (bS T x).drop1,e.cells.length=i.sz:=by
        intro e he;rcases List.mem_or_eq_of_mem_set he with he|rfl
        · exact hs e he
        · exact hdl
      obtain⟨arr',e1,e2,e3,e4⟩:=zL i rest _ _ es' h' hs' hok.2 hb;refine⟨arr', ?_,e2,e3,by rw[e4];simp⟩;simp only[aNl,Instr.fill];have hfl:=cE es hs;have hks:(k+1)*i.sz<=es.length*i.sz:=aNp _ hk;rw[Nat.succ_mul]at hks;rw[if_neg]
      · rw[<-e1]
        congr 1;rw[<-Array.foldl_toList,Array.toList_zipIdx]
      · rw[c3,h.1,hfl];simp;omega
    · cases hb
include ht in
theorem yD(ho:E.Ok){t:TypeId}{n:Nat}{ps:Array (Nat×Operand)}(hok:ps.toList.all (λx=>aU N x.2)=true){ei:TypeId×TI}(hf:cJ P t=some ei){z:PV}(hz:cA P ei.1=some z)(hfit:z.fits ei.2=true)(hs0:0<ei.2.sz)(hsz:n*ei.2.sz<=2^24){es:List PV}(hb:mE ei.2 T (aNb n z) ps.toList=some es):∃E' val,(Instr.buildSlice t n (ps.map λ(i,x)=>(i,a.eval x))).run P E.w= .ok val E'.w/\E.le E'/\E'.Ok/\E'.H=E.H/\aQ E'.view val (.slice es .full):=by
  obtain⟨e,i⟩:=ei;obtain⟨h1,h2⟩:=cS hf;obtain⟨d,f,h3,h4,rfl⟩:=cC h2;obtain⟨f',v,h5,h6,rfl⟩:=eU hz;simp only at hfit hs0 hsz hb h5;rw[h4]at h5;cases h5;obtain⟨hc1,hc2⟩:=PV.fits_spec hfit;simp only at hc1;obtain⟨c1,c2⟩:=(dP E.view v).not_junk_cells hc2;have hvs:v.cells.size=f.size:=c1.trans hc1;have hrl:=oL (V:=E.view) v hc2 n;have hes:∀e∈aNb n (aW v),e.cells.length=f.size:=by
    intro e he;rw[(List.mem_replicate.1 he).2,hc1]
  obtain⟨arr',e1,e2,e3,e4⟩:=zL ht ⟨DO d,f.size,f.bytes⟩ ps.toList _ _ es hrl hes hok hb;rw[List.length_replicate]at e4;have hle:=aK.newFixed_le ho (.cells arr' e);refine⟨E.newFixed (.cells arr' e), .slice (some ⟨E.w.heap.size,0,none⟩) n n, ?_,hle,ho.newFixed _,rfl, ?_⟩
  · simp only[Instr.buildSlice,aM9,aP h1,cQ h4,aNa]
    have hlt:¬n*f.size>2^24:=z8
    simp only[hlt,if_false,aNc,aNa,Sem.run_ite,aM9]
    by_cases hn:n*f.size=0
    · have hn0:n=0:=by
        rcases Nat.mul_eq_zero.1 hn with h|h; · exact h
        · omega
      subst hn0;simp only[Nat.zero_mul,if_true,aNa];simp only[Nat.zero_mul]at e1;have e0:Array.map (λx=>v.cells[x%v.cells.size]!) (Array.range 0)=Array.map (λx=>(#[]:Array Value)[x%(#[]:Array Value).size]!) (Array.range 0):=zz
      rw[e0]at e1;rw[Array.toList_map];simp only[e1,newRow,aM9,run_newObj,aNa,aNc];rfl
    · simp only[if_neg hn,jF h4 h6,aNa,aM9,aNc]
      rw[Array.toList_map];rw[hvs]at e1;simp only[hvs,e1,newRow,aM9,run_newObj,aNa,aNc];rfl
  · refine qZ (sz:=f.size) vA e3 (e2.mono hle.view) e4 ?_
    have:n<=n*f.size:=Nat.le_mul_of_pos_right _ hs0;unfold maxLen;omega
end ops
theorem aI{a b:Prop}(h:a)(k:b):a/\b:=⟨h,k⟩
theorem aQ.int_inv{V:cG}{v:Value}{k n}(h:aQ V v (.int k n)):v= .int k n:=by cases h;rfl
theorem aQ.bool_inv{V:cG}{v:Value}{b}(h:aQ V v (.bool b)):v= .bool b:=by cases h;rfl
theorem aQ.agg_inv{V:cG}{v:Value}{cs}(h:aQ V v (.agg cs)):∃arr,v= .agg arr/\RL V arr cs:=by cases h;exact⟨_,rfl,‹_›,‹_›⟩
theorem aQ.tup_inv{V:cG}{v:Value}{cs}(h:aQ V v (.tup cs)):∃arr,v= .tuple arr/\RL V arr cs:=by cases h;exact⟨_,rfl,‹_›,‹_›⟩
theorem aQ.iptr_inv{V:cG}{v:Value}{cs}(h:aQ V v (.iptr cs)):∃(a:Addr) (vs:Nat->Value),v= .pointer (some a)/\(∀j,j<cs.length->V.cell (a.add j)=some (vs j))/\(∀j (h:j<cs.length),aQ V (vs j) cs[j]):=by
 cases h;exact⟨_,_,rfl,‹_›,‹_›⟩
theorem aAt{cs:List PV}{off sz:Nat}{arr:Array Value}{V:cG}(h:RL V arr cs)(hl:off+sz<=cs.length):RL V (arr.extract off (off+sz)) ((cs.drop off).take sz):=by
 refine⟨by simp[h.1];omega,λi hi=> ?_⟩;simp only[aNe,aNd]at hi;have:=h.2 (off+i) z8;rw[List.getElem_take,List.getElem_drop];rw[aMt]at this⊢;rw[Array.getElem?_extract,if_pos (by rw[h.1];omega)];exact this
section ops
variable{P:Program}{E:aK}{N:Nat}{a:Act}{T:Nat->PV}(ht:eR E.view N a T)
include ht
omit ht in
theorem FR{t:TypeId}{fl:List (Nat×TI)}(hf:kO P t=some fl){k off:Nat}{i:TI}(hk:fl[k]? =some (off,i)):
  ∃fs f,P.underlying t=some (.struct fs)/\fs[k]? =some f/\f.offset=off/\bZ P f.type=some i:=by
 obtain⟨fs,h1,h2⟩:=BT hf;have key:∀(l:List Field) (fl:List (Nat×TI)) (k:Nat),(l.mapM λf=>(bZ P f.type).map λi=>(f.offset,i))=some fl->fl[k]? =some (off,i)->
   ∃f,l[k]? =some f/\f.offset=off/\bZ P f.type=some i:=by
  intro l
  induction l with
  |nil=>intro fl k h hk;simp at h;subst h;simp at hk
  |cons f l ih=>
   intro fl k h hk;rw[List.mapM_cons]at h;cases h3:bZ P f.type with
   |none=>rw[h3]at h;simp at h
   |some j=>
    cases h4:l.mapM λf=>(bZ P f.type).map λi=>(f.offset,i)with
    |none=>rw[h3]at h;simp[h4]at h
    |some fl'=>
     rw[h3]at h;simp[h4]at h;subst h;cases k with
     |zero=>simp at hk;exact⟨f,rfl,hk.1,by rw[h3,hk.2]⟩
     |succ k=>simp at hk;simpa using ih fl' k h4 hk
 obtain⟨f,h3,h4,h5⟩:=key fs.toList fl k h2 hk;exact⟨fs,f,h1,by simpa using h3,h4,h5⟩
theorem zS{t:TypeId}{k:Nat}{x:Operand}(hx:aU N x=true){fl:List (Nat×TI)}(hf:kO P t=some fl){v:PV}(hv:tF fl k (bS T x)=some v):
  ∃val,(Instr.fieldAt t (a.eval x) k).run P E.w= .ok val E.w/\aQ E.view val v:=by
 have hr:=aN ht x hx;generalize a.eval x=ax at hr;generalize bS T x=px at hr hv;unfold tF at hv
 split at hv
 ·rename_i off i hk;obtain⟨fs,f,h1,h2,h3,h4⟩:=FR hf hk;obtain⟨d,g,h5,h6,rfl⟩:=cC h4
  split at hv
  ·cases hv
  ·rename_i hz;simp only at hz;have hplace:∀ad:Addr,(fieldPlace ad f).run P E.w= .ok (ad.add off) E.w:=by
    intro ad;simp only[fieldPlace,aM9,cQ h6,aNa,if_neg hz,aNc,h3]
   have hrun:∀ad:Addr,(Instr.fieldAt t (.pointer (some ad)) k).run P E.w= .ok (.pointer (some (ad.add off))) E.w:=by
    intro ad;simp only[Instr.fieldAt,aM9,aP h1,aNa,h2,Instr.sureAddr,aNc,hplace]
   split at hv
   ·cases hv;obtain⟨rfl,hb⟩:=hr.optr_inv;refine⟨_,hrun _, ?_⟩;rw[dH];exact .optr _ _ hb
   ·rename_i cs;cases hv;obtain⟨ad,vs,rfl,hc,hr⟩:=hr.iptr_inv;refine⟨_,hrun _, .iptr _ _ (λj=>vs (off+j)) ?_ ?_⟩
    ·intro j hj;rw[aNd]at hj;rw[AK];exact hc _ z8
    ·intro j hj;rw[aNd]at hj;rw[List.getElem_drop];exact hr _ _
   ·cases hv
 ·cases hv
theorem LH{t:TypeId}{k:Nat}{x:Operand}(hx:aU N x=true){fl:List (Nat×TI)}(hf:kO P t=some fl){v:PV}(hv:XA fl k (bS T x)=some v):
  ∃val,(Instr.field t (a.eval x) k).run P E.w= .ok val E.w/\aQ E.view val v:=by
 have hr:=aN ht x hx;generalize a.eval x=ax at hr;generalize bS T x=px at hr hv;unfold XA at hv
 split at hv
 ·rename_i off i cs hk;obtain⟨fs,f,h1,h2,h3,h4⟩:=FR hf hk;obtain⟨d,g,h5,h6,rfl⟩:=cC h4;obtain⟨arr,rfl,hrl⟩:=hr.agg_inv
  split at hv
  ·rename_i hl;simp only at hl hv
   split at hv
   ·rename_i hagg;cases hv;have:=aAt hrl hl;refine⟨.agg (arr.extract off (off+g.size)), ?_, .agg _ _ this.1 this.2⟩;simp only[Instr.field,aM9,aP h1,aNa,h2,asAgg,aNc,part,AN h5,hagg,if_true,cQ h6,h3]
   ·rename_i hagg;have hlt:=lG hv;have hc:=hrl.2 off hlt;rw[aNi hlt]at hv;cases hv;have hg:arr[off]? =some (arr.getD off undef):=by
     rw[aMt,aMy (by rw[hrl.1];exact hlt)];rfl
    refine⟨arr.getD off undef, ?_,hc⟩;simp only[Bool.not_eq_true]at hagg;simp only[Instr.field,aM9,aP h1,aNa,h2,asAgg,aNc,part,AN h5,hagg,aNh,if_false,h3,hg]
  ·cases hv
 ·cases hv
omit ht in
theorem yV{V:cG}{i:Value}{p:PV}{n k:Nat}(hr:aQ V i p)(h:zY p n=some k):∃kd j,i= .int kd j/\0<=j/\j<n/\j.toNat=k:=by
 unfold zY at h
 split at h
 ·rename_i kd j
  split at h
  ·rename_i hc;cases h;exact⟨kd,j,hr.int_inv,hc.1,hc.2,rfl⟩
  ·cases h
 ·cases h
theorem AA{t:TypeId}{x i:Operand}(hx:aU N x=true)(hi:aU N i=true){ei:TypeId×TI}(hf:cJ P t=some ei){v:PV}(hv:mW ei (bS T x) (bS T i)=some v):
  ∃val,(Instr.indexAt t (a.eval x) (a.eval i)).run P E.w= .ok val E.w/\aQ E.view val v:=by
 obtain⟨e,ti⟩:=ei;obtain⟨h1,h2⟩:=cS hf;obtain⟨d,f,h3,h4,rfl⟩:=cC h2;have hr:=aN ht x hx;have hr':=aN ht i hi;generalize a.eval x=ax at hr;generalize bS T x=px at hr hv;generalize a.eval i=ai at hr';generalize bS T i=pi at hr' hv;have hrun:∀(ad:Addr) (len cap:Nat) (kd:IntKind) (j:Int),0<=j->j<len->(Instr.indexAt t (.slice (some ad) len cap) (.int kd j)).run P E.w= .ok (.pointer (some (ad.add (j.toNat*f.size)))) E.w:=by
  intro ad len cap kd j h5 h6;simp only[Instr.indexAt,asIntOf,aM9,aNc,aNa,aP h1,cQ h4,if_pos (aI h5 h6),Sem.run_ite]
 unfold mW at hv
 split at hv
 ·rename_i es tl;cases hk:zY pi es.length with
  |none=>rw[hk]at hv;cases hv
  |some k=>
   rw[hk]at hv;obtain⟨kd,j,rfl,h5,h6,rfl⟩:=yV hr' hk;simp only[aM3]at hv;have hlt:j.toNat<es.length:=z8
   rw[aNi hlt]at hv;simp only[aM3]at hv
   split at hv
   ·rename_i hes;cases hv;cases hr with
    |nils _ _=>simp at hlt
    |slice ad len cap sz _ _ vs hlen hcap hmax hsz hc hr htl=>
     refine⟨_,hrun ad len cap kd j h5 z8, ?_⟩;have hs:=hsz _ hlt;have hszf:sz=f.size:=by rw[<-hs];exact hes
     refine .iptr _ _ (λq=>vs j.toNat q) (λq hq=> ?_) (λq hq=>hr _ q hlt hq);rw[AK];have:=hc j.toNat q z8 z8;rw[hszf]at this;exact this
   ·cases hv
 ·rename_i id off n c;cases hk:zY pi n with
  |none=>rw[hk]at hv;cases hv
  |some k=>
   rw[hk]at hv;obtain⟨kd,j,rfl,h5,h6,rfl⟩:=yV hr' hk;cases hv;cases hr with
   |msl _ _ _ _ hb hm=>
    refine⟨_,hrun _ n c kd j h5 h6, ?_⟩;rw[dH];exact .optr _ _ hb
 ·cases hv
theorem JZ{t:TypeId}{x i:Operand}(hx:aU N x=true)(hi:aU N i=true){s:List UInt8}(hs:bS T x= .str s)(hst:LW P t=true){k:Nat}(hk:zY (bS T i) s.length=some k){b:UInt8}(hb:s[k]? =some b):
  (Instr.index t (a.eval x) (a.eval i)).run P E.w= .ok (.int .u8 b.toNat) E.w:=by
 have hr:=aN ht x hx;have hr':=aN ht i hi;rw[hs]at hr;obtain⟨kd,j,e,h5,h6,rfl⟩:=yV hr' hk;rw[e];unfold LW at hst
 split at hst
 ·rename_i hu;generalize a.eval x=ax at hr;cases hr with
  |str s=>
   have hb':s[j.toNat]? =some b:=by
    rw[<-hb];simp only[aNk];rfl
   simp only[Instr.index,asIntOf,aM9,aNc,aNa,aP hu,if_pos h5,hb']
 ·cases hst
theorem EP{x:Operand}(hx:aU N x=true){vs:List PV}(hs:bS T x= .tup vs){k:Nat}{v:PV}(hk:vs[k]? =some v):
  ∃val,(Instr.extract (a.eval x) k).run P E.w= .ok val E.w/\aQ E.view val v:=by
 have hr:=aN ht x hx;rw[hs]at hr;obtain⟨arr,e,hrl⟩:=hr.tup_inv;rw[e];have hlt:=lG hk;rw[aNi hlt]at hk;cases hk;have hg:arr[k]? =some (arr.getD k undef):=by
  rw[aMt,aMy (by rw[hrl.1];exact hlt)];rfl
 exact⟨_,by simp only[Instr.extract,hg,aNc],hrl.2 _ hlt⟩
end ops
theorem BF(s:ByteArray)(l h:Nat):(s.extract l h).data.toList=(s.data.toList.take h).drop l:=by
 rw[ByteArray.data_extract,Array.toList_extract];rw[List.extract_eq_take_drop,List.drop_take]
theorem UW{V:cG}{i:Value}{p:PV}{n k:Nat}(hr:aQ V i p)(h:zU p n=some k):∃kd j,i= .int kd j/\0<=j/\j<=n/\j.toNat=k:=by
 unfold zU at h
 split at h
 ·rename_i kd j
  split at h
  ·rename_i hc;cases h;exact⟨kd,j,hr.int_inv,hc.1,hc.2,rfl⟩
  ·cases h
 ·cases h
theorem xX{P:Program}{V:cG}{w:World}{i:Value}{p:PV}{n k:Nat}{c:BoundsCode}(hr:aQ V i p)(m:Nat)(hm:n<=m)(h:zU p n=some k):(Instr.sliceBound i m c).run P w= .ok k w/\k<=n:=by
 obtain⟨kd,j,rfl,h1,h2,rfl⟩:=UW hr h;have:0<=j/\j<=m:=⟨h1,z8⟩;refine⟨?_,z8⟩;simp only[Instr.sliceBound,asIntOf,aM9,aNc,aNa,if_pos this,Sem.run_ite]
section ops
variable{P:Program}{E:aK}{N:Nat}{a:Act}{T:Nat->PV}(ht:eR E.view N a T)
include ht
theorem pC{w:World}{x:Option Operand}(hx:x.all (aU N)=true){n d k:Nat}(m:Nat)(hm:n<=m){c:BoundsCode}(h:lU T x n d=some k):
  ((match x.map a.eval with|some v=>Instr.sliceBound v m c|none=>pure d:Sem Nat)).run P w= .ok k w/\(k<=n\/(x=none/\k=d)):=by
 cases x with
 |none=>simp[lU]at h;subst h;exact⟨rfl, .inr ⟨rfl,rfl⟩⟩
 |some x=>
  simp only[lU]at h;have:=xX (P:=P) (w:=w) (c:=c) (aN ht x (by simpa using hx)) m hm h;exact⟨this.1, .inl this.2⟩
theorem LO{t:TypeId}{x:Operand}{lo hi mx:Option Operand}(hx:aU N x=true)(hlo:lo.all (aU N)=true)(hhi:hi.all (aU N)=true)(hmx:mx.all (aU N)=true){v:PV}
  (hv:lP P T t (bS T x) lo hi mx=some v):
  ∃val,(Instr.sliceAt t (a.eval x) (lo.map a.eval) (hi.map a.eval) (mx.map a.eval)).run P E.w= .ok val E.w/\aQ E.view val v:=by
 have hr:=aN ht x hx;generalize a.eval x=ax at hr;generalize bS T x=px at hr hv;unfold lP at hv
 split at hv
 ·rename_i s
  split at hv
  ·rename_i hc;obtain⟨hst,hmn⟩:=hc;obtain rfl:mx=none:=by cases mx<;>simp_all
   cases hh:lU T hi s.length s.length with
   |none=>rw[hh]at hv;cases hv
   |some h=>
    rw[hh]at hv;simp only[aM3]at hv;cases hl:lU T lo h 0 with
    |none=>rw[hl]at hv;cases hv
    |some l=>
     rw[hl]at hv;simp only[aM3,Option.some.injEq]at hv;subst hv;unfold LW at hst
     split at hst
     ·rename_i hu;cases hr with
      |str s=>
       have hsz:s.data.toList.length=s.size:=aMx;rw[hsz]at hh;have h1:=pC (P:=P) ht (w:=E.w) hhi s.size (aMq _) (c:=.sliceAlen) hh;have h2:=pC (P:=P) ht (w:=E.w) hlo h (aMq _) (c:=.sliceB) hl;refine⟨.string (s.extract l h), ?_, ?_⟩
       ·simp only[Instr.sliceAt,aM9,aP hu,aNa,Instr.slice,aNr,Option.isSome_none,aNh,if_false,Instr.sliceBounds,aNc];have e1:=h1.1;have e2:=h2.1;cases hi with
        |none=>
         cases lo with
         |none=>simp only[aNr,aNc,Result.ok.injEq,and_true]at e1 e2⊢;subst e1;subst e2;simp
         |some lo=>simp only[aNr,aM6,aNc,Result.ok.injEq,and_true]at e1 e2⊢;subst e1;simp[e2]
        |some hi=>
         cases lo with
         |none=>simp only[aNr,aM6,aNc,Result.ok.injEq,and_true]at e1 e2⊢;subst e2;simp[e1]
         |some lo=>simp only[aM6,aNc,Result.ok.injEq,and_true]at e1 e2⊢;simp[e1,e2]
       ·rw[<-BF];exact .str _
     ·cases hst
  ·cases hv
 ·rename_i es tl
  split at hv
  ·rename_i e i htel
   split at hv
   ·rename_i hsz0;obtain⟨hu,hti⟩:=cS htel;obtain⟨d,f,h3,h4,rfl⟩:=cC hti;simp only at hsz0;obtain⟨ad,len,cap,rfl,hlen,hcap,hmax,hres⟩:∃(ad:Option Addr) (len cap:Nat),ax= .slice ad len cap/\es.length=len/\len<=cap/\cap<=maxLen/\
      ∀l h m tl',l<=h->h<=len->h<=m->m<=cap->nQ E.view tl' (if m=l then ad else ad.map (·.add (l*f.size))) (h-l) (m-l)->
       aQ E.view (.slice (if m=l then ad else ad.map (·.add (l*f.size))) (h-l) (m-l)) (.slice ((es.take h).drop l) tl'):=by
     cases hr with
     |nils _ _=>
      refine⟨none,0,0,rfl,rfl,aMq _,aNs _, ?_⟩;intro l h m tl' h1 h2 h3 h4 h5;obtain rfl:m=0:=z8
      obtain rfl:h=0:=z8
      obtain rfl:l=0:=z8
      simp only[if_true,aNt,List.take_nil,List.drop_nil]at h5⊢;exact .nils _ h5
     |slice ad len cap sz _ _ vs hlen hcap hmax hsz hc hr htl=>
      refine⟨some ad,len,cap,rfl,hlen,hcap,hmax, ?_⟩;intro l h m tl' h1 h2 h3 h4 h5;have hval:(if m=l then some ad else Option.map (λx:Addr=>x.add (l*f.size)) (some ad))=some (if m=l then ad else ad.add (l*f.size)):=by split<;>rfl
      rw[hval]at h5⊢;have hle:((es.take h).drop l).length=h-l:=by simp;omega
      have hget:∀i,(hi:i<((es.take h).drop l).length)->((es.take h).drop l)[i]=es[l+i]'(by rw[hle]at hi;omega):=by
       intro i hi;rw[List.getElem_drop,List.getElem_take]
      refine .slice _ _ _ sz _ _ (λi j=>vs (l+i) j) hle z8 z8 (λi hi=> ?_) (λi j hi hj=> ?_) (λi j hi hj=> ?_) h5
      ·rw[hget i hi];exact hsz _ _
      ·have hne:¬m=l:=z8
       rw[if_neg hne,AK];have hli:l+i<es.length:=z8
       have hss:sz=f.size:=by rw[<-hsz _ hli];exact hsz0 _ (aNq hli)
       have:=hc (l+i) j z8 hj;rw[<-this,<-hss,aNu,Nat.add_assoc]
      ·have hj':=hj;simp only[hget i hi]at hj'⊢;exact hr _ _ _ _
    have hrun:∀(l h m:Nat),(Instr.sliceBounds true len cap (lo.map a.eval) (hi.map a.eval) (mx.map a.eval)).run P E.w= .ok (l,h,m) E.w->
      (Instr.sliceAt t (.slice ad len cap) (lo.map a.eval) (hi.map a.eval) (mx.map a.eval)).run P E.w= .ok (.slice (if m=l then ad else ad.map (·.add (l*f.size))) (h-l) (m-l)) E.w:=by
     intro l h m hb;simp only[Instr.sliceAt,aM9,aP hu,aNa,Instr.slice,hb,cQ h4,aNc]
    have htail:nQ E.view tl ad len cap:=by
     cases hr with
     |nils _ h=>exact h
     |slice=>assumption
    split at hv
    ·
     cases hh:lU T hi es.length es.length with
     |none=>rw[hh]at hv;cases hv
     |some h=>
      rw[hh]at hv;simp only[aM3]at hv;cases hl:lU T lo h 0 with
      |none=>rw[hl]at hv;cases hv
      |some l=>
       rw[hl]at hv;simp only[aM3,Option.some.injEq]at hv;subst hv;rw[hlen]at hh;have h1:=pC (P:=P) ht (w:=E.w) hhi cap hcap (c:=.sliceAcap) hh;have h2:=pC (P:=P) ht (w:=E.w) hlo h (aMq _) (c:=.sliceB) hl;have hhl:h<=len:=by rcases h1.2 with h| ⟨_,h⟩<;>omega
       have hll:l<=h:=by rcases h2.2 with h| ⟨_,h⟩<;>omega
       refine⟨_,hrun l h cap ?_,hres l h cap _ hll hhl z8 (aMq _) ?_⟩
       ·simp only[Instr.sliceBounds,aNr,aM9,aNc,aNa,Option.isSome_none,aNh,if_false];have e1:=h1.1;have e2:=h2.1;cases hi with
        |none=>
         cases lo with
         |none=>simp only[aNr,aNc,Result.ok.injEq,and_true]at e1 e2⊢;subst e1;subst e2;simp
         |some lo=>simp only[aNr,aM6,aNc,Result.ok.injEq,and_true]at e1 e2⊢;subst e1;simp[e2]
        |some hi=>
         cases lo with
         |none=>simp only[aNr,aM6,aNc,Result.ok.injEq,and_true]at e1 e2⊢;subst e2;simp[e1]
         |some lo=>simp only[aM6,aNc,Result.ok.injEq,and_true]at e1 e2⊢;simp[e1,e2]
       ·split
        ·rename_i hc;obtain⟨hc1,rfl⟩:=hc;have:cap=len:=htail;show cap-l=h-l;omega
        ·split
         ·rename_i hc;obtain⟨hc1,hc2⟩:=hc;obtain rfl:hi=none:=by cases hi<;>simp_all
          obtain rfl:lo=none:=by cases lo<;>simp_all
          simp[lU]at hh hl;subst hh;subst hl;simp only[Nat.sub_zero,Nat.zero_mul,yR,Option.map_id_fun',id_eq,ite_self];have e:(if cap=0 then ad else Option.map (λx:Addr=>x) ad)=ad:=by split<;>simp
          simpa using htail
         ·trivial
    ·
     rename_i m
     split at hv
     ·cases hv
     ·rename_i hh;cases hm:zU (bS T m) es.length with
      |none=>rw[hm]at hv;cases hv
      |some m'=>
       rw[hm]at hv;simp only[aM3]at hv;cases hhb:zU (bS T hh) m' with
       |none=>rw[hhb]at hv;cases hv
       |some h'=>
        rw[hhb]at hv;simp only[aM3]at hv;cases hl:lU T lo h' 0 with
        |none=>rw[hl]at hv;cases hv
        |some l=>
         rw[hl]at hv;simp only[aM3,Option.some.injEq]at hv;subst hv;rw[hlen]at hm;have g1:=xX (P:=P) (w:=E.w) (c:=.slice3Acap) (aN ht m (by simpa using hmx)) cap hcap hm;have g2:=xX (P:=P) (w:=E.w) (c:=.slice3B) (aN ht hh (by simpa using hhi)) m' (aMq _) hhb;have h2:=pC (P:=P) ht (w:=E.w) hlo h' (aMq _) (c:=.slice3C) hl;have hll:l<=h':=by rcases h2.2 with h| ⟨_,h⟩<;>omega
         refine⟨_,hrun l h' m' ?_,hres l h' m' _ hll z8 g2.2 z8 ?_⟩
         ·simp only[Instr.sliceBounds,aM6,aM9,aNc,aNa,aNv,if_true,g1.1,g2.1];have e2:=h2.1;cases lo with
          |none=>simp only[aNr,aNc,Result.ok.injEq,and_true]at e2⊢;subst e2;simp
          |some lo=>simp only[aM6]at e2⊢;simp[e2]
         ·split
          ·rename_i e;subst e;rfl
          ·trivial
   ·cases hv
  ·cases hv
 ·cases hv
end ops
theorem EZ(n:Nat):∀(r c:Nat),256<=c->c<=2*n->Builtin.growBy n r c<=2*n
  |0,c,_,h=>h
  |r+1,c,h1,h=>by
    unfold Builtin.growBy
    split
    · exact h
    · exact EZ n r _ z8 z8
theorem kB(n old:Nat)(h:old<=n):Builtin.nextslicecap n old<=2*n:=by
  unfold Builtin.nextslicecap
  split
  · omega
  · split
    · omega
    · exact EZ n 4 old z8 z8
theorem uI{P:Program}{w:World}(n:Nat):(askRoom n).run P w= .ok () w:=by
  unfold askRoom;split<;>rfl
theorem kU{P:Program}{w:World}(need old:Nat)(e:TypeId):∃c,(choose (.appendCap need old e)).run P w= .ok c w.drew/\need<=c/\(need<2^63->c<2^63):=by
  refine⟨need+w.tape w.drawn (.appendCap need old e)%(2^63-need), ?_,z8,λh=> ?_⟩
  · simp only[choose,Sem.run,Question.forced,aNh,if_false,Question.cut];rfl
  · have:=Nat.mod_lt (w.tape w.drawn (.appendCap need old e)) (show 0<2^63-need by omega)
    omega
theorem mP{P:Program}{E:aK}{v:Value}{es:List PV}{tl:bE}(h:aQ E.view v (.slice es tl)){sz:Nat}(hs:∀e∈es,e.cells.length=sz):∃arr,(Builtin.firstCells sz es.length v).run P E.w= .ok arr E.w/\RL E.view arr (aL es)/\∃ad cap,v= .slice ad es.length cap/\es.length<=cap/\cap<=maxLen/\nQ E.view tl ad es.length cap:=by
  cases h with
  |nils _ ht=>exact⟨#[],rfl,⟨rfl,λi h=>absurd h (by simp[aL])⟩,none,0,rfl,aMq _,aNs _,ht⟩
  |slice ad len cap sz' _ _ vs hlen hcap hmax hsz hc hr ht=>
    subst hlen;have hfl:=cE es hs
    by_cases h0:es.length*sz=0
    · refine⟨#[], ?_,⟨?_,λi h=> ?_⟩,some ad,cap,rfl,hcap,hmax,ht⟩
      · simp only[Builtin.firstCells,h0,loadCells,loadCellsFrom,aNc]
      · rw[hfl,h0];rfl
      · rw[hfl,h0]at h;omega
    · have hpos:0<es.length:=by
        rcases Nat.eq_zero_or_pos es.length with e|e; · rw[e]at h0;simp at h0
        · exact e
      have hszpos:0<sz:=by
        rcases Nat.eq_zero_or_pos sz with e|e; · rw[e]at h0;simp at h0
        · exact e
      have hss:sz'=sz:=by rw[<-hsz 0 hpos];exact hs _ (aNq hpos)
      subst hss;have hdm:∀k,k<es.length*sz'->k/sz'<es.length/\k%sz'<sz'/\k=k/sz'*sz'+k%sz':=λk hk=>
        ⟨(Nat.div_lt_iff_lt_mul hszpos).2 hk,Nat.mod_lt k hszpos,by rw[Nat.mul_comm];exact(Nat.div_add_mod k sz').symm⟩
      have hf:∀k,k<es.length*sz'->E.w.cell? (ad.add k)=some (vs (k/sz') (k%sz')):=by
        intro k hk;obtain⟨h1,h2,h3⟩:=hdm k hk;have:=aK.cell_stable (hc _ _ h1 h2);rw[<-h3]at this;exact this
      refine⟨_,run_loadCells E.w ad _ (λk=>vs (k/sz') (k%sz')) hf,⟨by simp[hfl],λk hk=> ?_⟩,some ad,cap,rfl,hcap,hmax,ht⟩;have hk':=hk;rw[hfl]at hk';obtain⟨h1,h2,h3⟩:=hdm k hk';have hj:k%sz'<es[k/sz'].cells.length:=by rw[hsz _ h1];exact h2
      have g:=lN es hs _ _ h1 h2;rw[<-h3,aNi hk,aNi hj]at g;simp only[Option.some.injEq]at g;rw[g,aMt];simp only[aNf,aNg,List.getElem?_range hk',aM6,aMz];exact hr _ _ h1 hj
theorem mN{V:cG}{a1 a2:Array Value}{c1 c2:List PV}(h1:RL V a1 c1)(h2:RL V a2 c2):RL V (a1++a2) (c1++c2):=by
  refine⟨by simp[h1.1,h2.1],λi hi=> ?_⟩;rw[aMt,Array.getElem?_append]
  by_cases h:i<c1.length
  · rw[if_pos (by rw[h1.1];exact h),List.getElem_append_left h,<-aMt]
    exact h1.2 i h
  · rw[if_neg (by rw[h1.1];exact h),List.getElem_append_right z8,h1.1,<-aMt]
    exact h2.2 _ _
theorem eH(a b:List PV):aL (a++b)=aL a++aL b:=by simp[aL]
theorem qX{V:cG}{b n cap:Nat}{arr:Array Value}{es:List PV}{sz:Nat}{tl:bE}(hcell:∀k,k<es.length*sz->V.cell ⟨b,k,none⟩=some (arr.getD k undef))(hes:∀e∈es,e.cells.length=sz)(hrl:∀k (h:k<(aL es).length),aQ V (arr.getD k undef) (aL es)[k])(hn:es.length=n)(hc:n<=cap)(hm:cap<=maxLen)(ht:nQ V tl (some ⟨b,0,none⟩) n cap):aQ V (.slice (some ⟨b,0,none⟩) n cap) (.slice es tl):=by
  have hfl:=cE es hes;have hlt:∀i j,i<es.length->j<sz->i*sz+j<es.length*sz:=by
    intro i j hi hj;have:(i+1)*sz<=es.length*sz:=aNp _ z8;rw[Nat.succ_mul]at this;omega
  refine .slice _ n cap sz es tl (λi j=>arr.getD (i*sz+j) undef) hn hc hm (λi h=>hes _ (aNq h)) ?_ ?_ ht
  · intro i j hi hj
    rw[dH,aNn];exact hcell _ (hlt i j z8 hj)
  · intro i j hi hj
    have hl:=hes _ (aNq hi);have hj':j<sz:=z8
    have hk:i*sz+j<(aL es).length:=by rw[hfl];exact hlt i j hi hj'
    have h1:=hrl _ hk;have h2:=lN es hes i j hi hj';rw[aNi hk,aNi hj]at h2;simp only[Option.some.injEq]at h2;rw[h2]at h1;exact h1
def aK.growIn(E:aK)(id n sz b off pos cend:Nat)(vs:List Value):aK:=
  {w:=iM E.w ⟨b,off,none⟩ vs 0,κ:=λx=>if x=b then .buf pos cend else E.κ x,ρ:=E.ρ,tb:=E.tb,H:=E.H.set id (.buf n sz)}
section growIn
variable{E:aK}(h:E.Ok){id n0 n sz b off pos cend:Nat}(hi:E.H[id]? =some (.buf n0 sz))(hn:n0<n)(hb:E.tb id=some b)(hk:E.κ b= .buf off cend)(vs:List Value)(hp:off+vs.length=pos)
include h hi hn hb hk hp
theorem aK.growIn_view:E.view.le (E.growIn id n sz b off pos cend vs).view:=by
  have hlen:=lG hi;obtain⟨arr,elem,pos',h1,h2⟩:=h.bufs id n0 sz b hi hb;obtain⟨arr',g1,g2,g3⟩:=qE b off elem (0,0) vs 0 E.w arr h1;refine⟨λa u hc=> ?_,λx hb'=> ?_,λx hb'=>rfl,λx t' hb' ht=> ?_⟩
  · simp only[aK.view]at hc⊢
    split at hc
    · rename_i hs
      by_cases e:a.block=b
      · rw[e,hk]at hs
        simp only[rN.stable,decide_eq_true_eq]at hs;have hst:(rN.buf pos cend).stable a.off=true:=by simp only[rN.stable,decide_eq_true_eq];omega
        simp only[aK.growIn,if_pos e,hst,if_true];unfold World.cell? at hc⊢;rw[e,h1]at hc;rw[e,g1];simp only at hc⊢
        split at hc
        · cases hc
        · rename_i hsp
          rw[if_neg hsp];have hlt:a.off<arr.size:=by
            rcases aMo a.off arr.size with q|q
            · exact q
            · rw[aMp q]at hc;cases hc
          rw[g3 _ hlt,if_neg z8];exact hc
      · simp only[aK.growIn,if_neg e,hs,if_true]
        rw[cell?_congr (mM _ _ e vs 0 E.w)];exact hc
    · cases hc
  · obtain⟨o,a1,a2⟩:=hb'
    by_cases e:x=id
    · exact⟨.buf n sz,by simp only[aK.growIn,aT hlen,if_pos e],zz⟩
    · exact⟨o,by simp only[aK.growIn,aT hlen,if_neg e];exact a1,a2⟩
  · by_cases e:x=id
    · subst e
      refine⟨_,by simp only[aK.view,hi];rfl, .inr ?_⟩;simp only[aK.view,aK.growIn,aT hlen,if_true]at ht;cases ht;exact hn
    · refine⟨t', ?_, .inl rfl⟩
      simp only[aK.view,aK.growIn,aT hlen,if_neg e]at ht⊢
      split at ht
      · rename_i n' sz' hx
        rw[<-ht];cases htb:E.tb x with
        |none=>rfl
        |some b'=>
          have hne:b'≠b:=by rintro rfl;exact e (h.injb x id _ _ _ _ _ hx hi htb hb)
          simp only[aM3,if_neg hne]
      · cases ht
theorem aK.growIn_le:E.le (E.growIn id n sz b off pos cend vs):=by
  have hlen:=lG hi;obtain⟨o1,o2,o3,o4⟩:=zH ⟨b,off,none⟩ vs 0 E.w;refine⟨o1,o2,o3,by show _<=(iM _ _ _ _).heap.size;omega,λx hx hnb=> ?_,aK.growIn_view h hi hn hb hk vs hp,λx hx=>Or.imp ?_ (Or.imp ?_ (aK.ownsObj_of λx k hx=> ?_))⟩
  · have hne:x≠b:=by rintro rfl;exact hnb (.inr (.inl ⟨id,n0,sz,hi,hb⟩))
    exact⟨by simp only[aK.growIn,if_neg hne],mM _ _ hne vs 0 E.w⟩
  · rintro⟨y,cs,a1,a2⟩
    simp only[aK.growIn,aT hlen]at a1 a2
    split at a1
    · cases a1
    · exact⟨y,cs,a1,a2⟩
  · rintro⟨y,m,s,a1,a2⟩
    simp only[aK.growIn,aT hlen]at a1 a2
    split at a1
    · rename_i e;subst e;exact⟨y,n0,sz,hi,a2⟩
    · exact⟨y,m,s,a1,a2⟩
  · simp only[aK.growIn,aT hlen]at hx
    split at hx
    · cases hx
    · exact⟨hx,rfl⟩
theorem aK.Ok.growIn:(E.growIn id n sz b off pos cend vs).Ok:=by
  have hlen:=lG hi;have hv:=aK.growIn_view h hi hn hb hk vs hp;obtain⟨arr,elem,pos',h1,h2⟩:=h.bufs id n0 sz b hi hb;obtain⟨arr',g1,g2,g3⟩:=qE b off elem (0,0) vs 0 E.w arr h1;have hcend:cend=arr.size:=by rw[hk]at h2;cases h2;rfl
  refine⟨?_, ?_, ?_, ?_,h.globs_of hv.cell (by intro x b vs hx;simp only[aK.growIn,aT hlen]at hx;split at hx<;>first|exact hx|cases hx),h.objs.of hv λx k hx=> ?_⟩
  rotate_left 4
  · simp only[aK.growIn,aT hlen]at hx
    split at hx
    · cases hx
    · obtain⟨⟨o,b1,b2⟩,b3⟩:=h.objs.at_ x k hx
      have hne:E.ρ x≠b:=by intro q;rw[q,hk]at b3;cases b3
      exact⟨hx,rfl,mM _ _ hne vs 0 E.w,by simp only[aK.growIn,if_neg hne]⟩
  · intro x cs hx
    simp only[aK.growIn,aT hlen]at hx
    split at hx
    · cases hx
    · obtain⟨arr2,elem2,b1,b2,b3,b4⟩:=h.rows x cs hx
      have hne:E.ρ x≠b:=by intro q;rw[q,hk]at b4;cases b4
      exact⟨arr2,elem2,by rw[<-b1];exact mM _ _ hne vs 0 E.w,b2,λi hl=>(b3 i hl).mono hv,by simp only[aK.growIn,if_neg hne];exact b4⟩
  · intro x m s b' hx hb'
    simp only[aK.growIn,aT hlen]at hx hb'
    split at hx
    · rename_i e
      subst e;rw[hb]at hb';cases hb';exact⟨arr',elem,pos,g1,by simp only[aK.growIn,if_true,g2,hcend]⟩
    · rename_i e
      obtain⟨arr2,elem2,pos2,b1,b2⟩:=h.bufs x m s b' hx hb';have hne:b'≠b:=by rintro rfl;exact e (h.injb x id _ _ _ _ _ hx hi hb' hb)
      exact⟨arr2,elem2,pos2,by rw[<-b1];exact mM _ _ hne vs 0 E.w,by simp only[aK.growIn,if_neg hne];exact b2⟩
  · intro x x' c c' a1 a2 e
    simp only[aK.growIn,aT hlen]at a1 a2 e
    split at a1<;>split at a2
    · cases a1
    · cases a1
    · cases a2
    · exact h.injr x x' c c' a1 a2 e
  · intro x x' n1 s1 n2 s2 b' a1 a2 e e'
    simp only[aK.growIn,aT hlen]at a1 a2 e e';have fix:∀y m s,(if y=id then some (AObj.buf n sz)else E.H[y]?)=some (.buf m s)->∃m' s',E.H[y]? =some (.buf m' s'):=by
      intro y m s q
      split at q
      · rename_i e;subst e;exact⟨n0,sz,hi⟩
      · exact⟨m,s,q⟩
    obtain⟨d,d1,hd⟩:=fix _ _ _ a1;obtain⟨d',d2,hd'⟩:=fix _ _ _ a2;exact h.injb x x' _ _ _ _ _ hd hd' e e'
end growIn
theorem AY(z:Array Value)(n:Nat):(Builtin.zeroCells z n).size=n*z.size:=by simp[Builtin.zeroCells]
theorem NR{E:aK}{E':aK}{b off:Nat}{ad:Addr}{es xs:List PV}{sz n cap:Nat}{tl:bE}{tl0:bE}
  (hle:E.view.le E'.view) (hs:aQ E.view (.slice (some ad) es.length cap) (.slice es tl0)) (hes:∀e∈es,e.cells.length=sz) (hxs:∀e∈xs,e.cells.length=sz)
  (had:ad=⟨b,off,none⟩) (hnew:∀k,k<xs.length*sz->∃v,E'.view.cell ⟨b,off+es.length*sz+k,none⟩=some v/\∀(h:k<(aL xs).length),aQ E'.view v (aL xs)[k])
  (hn:es.length+xs.length=n) (hc:n<=cap) (hm:cap<=maxLen) (ht:nQ E'.view tl (some ad) n cap):
  aQ E'.view (.slice (some ad) n cap) (.slice (es++xs) tl):=by
 subst had;cases hs with
 |slice _ _ _ sz' _ _ vs hlen hcap hmax hsz hcell hr htl=>
  let g:Nat->Value:=λk=>(E'.view.cell ⟨b,off+es.length*sz+k,none⟩).getD undef
  have hg:∀k,k<xs.length*sz->E'.view.cell ⟨b,off+es.length*sz+k,none⟩=some (g k)/\∀(h:k<(aL xs).length),aQ E'.view (g k) (aL xs)[k]:=by
   intro k hk;obtain⟨v,h1,h2⟩:=hnew k hk;have:g k=v:=by simp only[g,h1,aMz]
   exact⟨by rw[this];exact h1,by rw[this];exact h2⟩
  have hlt:∀i j,i<xs.length->j<sz->i*sz+j<xs.length*sz:=by
   intro i j hi hj;have:(i+1)*sz<=xs.length*sz:=aNp _ z8;rw[Nat.succ_mul]at this;omega
  refine .slice _ n cap sz _ _ (λi j=>if i<es.length then vs i j else g ((i-es.length)*sz+j)) (by simp[hn]) hc hm ?_ ?_ ?_ ht
  ·intro i hi;rw[List.getElem_append]
   split
   ·exact hes _ (aNq _)
   ·exact hxs _ (aNq _)
  ·intro i j hi hj
   by_cases h:i<es.length
   ·rw[if_pos h];have hss:sz'=sz:=by rw[<-hsz _ h];exact hes _ (aNq h)
    subst hss;exact hle.cell _ _ (hcell i j h hj)
   ·rw[if_neg h,dH];have hk:=hlt (i-es.length) j z8 hj;have:=(hg _ hk).1;rw[<-this];congr 2;rw[Nat.sub_mul];have:es.length*sz<=i*sz:=aNp _ z8;omega
  ·intro i j hi hj
   by_cases h:i<es.length
   ·have e:(es++xs)[i]=es[i]:=List.getElem_append_left h;rw[if_pos h];simp only[e]at hj⊢;exact(hr i j h hj).mono hle
   ·have hi':i-es.length<xs.length:=by simp at hi;omega
    have e:(es++xs)[i]=xs[i-es.length]:=List.getElem_append_right z8;rw[if_neg h];simp only[e]at hj⊢;have hj':j<sz:=by rw[<-hxs _ (aNq hi')];exact hj
    have hk:=hlt _ j hi' hj';have h2:=lN xs hxs _ j hi' hj';have hk':(i-es.length)*sz+j<(aL xs).length:=by rw[cE xs hxs];exact hk
    rw[aNi hk',aNi hj]at h2;simp only[Option.some.injEq]at h2;rw[<-h2];exact(hg _ hk).2 hk'
section ops
variable{P:Program}{E:aK}{N:Nat}{a:Act}{T:Nat->PV}(ho:E.Ok)
include ho
theorem DZ{t u ty:TypeId}{sv xv:Value}{es xs:List PV}{tl:bE}(hs:aQ E.view sv (.slice es tl))(hx0:xs≠ [])(hxn:∀w,(Builtin.lenOf xv).run P w= .ok xs.length w)
  (hxf:∀sz,(∀e∈xs,e.cells.length=sz)->∀D:aK,D.view=E.view->∃arrx,(Builtin.firstCells sz xs.length xv).run P D.w= .ok arrx D.w/\RL E.view arrx (aL xs))
  {ei:TypeId×TI} (hf:cJ P t=some ei) {z:PV} (hz:cA P ei.1=some z) (hu:(∃eu,P.underlying u=some (.slice eu))\/P.underlying u=some .string) (hzf:z.fits ei.2=true) {fresh:Nat} {v:PV} {eff:pK}
  (hv:(if(es.length+xs.length)*ei.2.bytes<=2^47/\es.length+xs.length<=maxLen/\(∀e∈es,e.cells.length=ei.2.sz)/\(∀e∈xs,e.cells.length=ei.2.sz/\e.cells.all PV.isCell=true)/\0<ei.2.sz then
   match tl with
   | .full=>some (.slice (es++xs) (.tok fresh),some (fresh, .buf (es.length+xs.length) ei.2.sz))
   | .tok id=>match E.H[id]? with
    |some (.buf n sz)=>if n=es.length/\sz=ei.2.sz then some (.slice (es++xs) (.tok id),some (id, .buf (es.length+xs.length) sz))else none
    |_=>none
   | .none=>none
  else none)=some (v,eff)) (hfr:∀o,eff=some (fresh,o)->tl= .full->E.H[fresh]? =some .unborn):
  ∃E' val,(Builtin.append_ #[t,u] ty #[sv,xv]).run P E.w= .ok val E'.w/\E.le E'/\E'.Ok/\E'.H=eff.app E.H/\aQ E'.view val v:=by
 obtain⟨e,i⟩:=ei;obtain⟨h1,h2⟩:=cS hf;obtain⟨d,f,h3,h4,rfl⟩:=cC h2;obtain⟨f',zv,h5,h6,rfl⟩:=eU hz;simp only at h5 hzf hv;rw[h4]at h5;cases h5;obtain⟨hzs,hzj⟩:=PV.fits_spec hzf;simp only at hzs;obtain⟨zc1,zc2⟩:=(dP E.view zv).not_junk_cells hzj;have hzv:zv.cells.size=f.size:=zc1.trans hzs
 split at hv
 ·rename_i hc;obtain⟨hc1,hc2,hc3,hc4,hc5⟩:=hc
  try simp only at hc1 hc3 hc4 hc5
  have hxs:∀e∈xs,e.cells.length=f.size:=λe he=>(hc4 e he).1;have hxl:0<xs.length:=List.length_pos_iff.2 hx0;obtain⟨arrx,r1,r2⟩:=hxf _ hxs E rfl;obtain⟨arrs,s1,s2,ads,caps,rfl,hcap,hmax,htail⟩:=mP (P:=P) hs hc3;have hxsz:arrx.size=xs.length*f.size:=by rw[r2.1,cE xs hxs]
  have hssz:arrs.size=es.length*f.size:=by rw[s2.1,cE es hc3]
  have hrun0:(Builtin.append_ #[t,u] ty #[.slice ads es.length caps,xv]).run P E.w=
    (if es.length+xs.length<=caps then(do
      let new<-Builtin.firstCells f.size xs.length xv
      if let some a:=ads then storeCells (a.add (es.length*f.size)) new.toList
      pure (.slice ads (es.length+xs.length) caps):Sem Value)else(do
      let newCap<-choose (.appendCap (es.length+xs.length) caps e)
      askRoom (newCap*f.bytes)
      let old<-Builtin.firstCells f.size es.length (.slice ads es.length caps)
      let new<-Builtin.firstCells f.size xs.length xv
      let rest:=Builtin.zeroCells zv.cells (newCap- (es.length+xs.length))
      pure (.slice (some (<-Go.newRow e (old++new++rest))) (es.length+xs.length) newCap))).run P E.w:=by
   have hnc:¬Builtin.nextslicecap (es.length+xs.length) caps*f.bytes>2^48\/es.length+xs.length<=caps:=by
    by_cases hle:es.length+xs.length<=caps
    ·exact .inr hle
    ·left;have:=kB (es.length+xs.length) caps z8;have:=aNp f.bytes this;rw[Nat.mul_assoc]at this;omega
   have hmx:¬(((es.length+xs.length:Nat):Int)>IntKind.i64.max):=by
    have e1:IntKind.i64.max=9223372036854775807:=z7
    have e2:maxLen=9223372036854775807:=z7
    rw[e1];rw[e2]at hc2;omega
   rcases hu with⟨eu,hue⟩|hue
   all_goals
    simp only[Builtin.append_,aNf,aNw,aM8,aM9,aP h1,cQ h4,aP hue,aNa,aNc,hxn,aNh,if_false,
     aNx,if_true]
    by_cases hle:es.length+xs.length<=caps
    ·simp only[if_pos hle,aM9];rfl
    ·have hnc':=hnc.resolve_right hle;simp only[if_neg hle,hmx,false_and,if_false,aM9,aNc,aNa,mQ h4,hnc',jF h4 h6]
  by_cases hle:es.length+xs.length<=caps
  ·
   rw[if_pos hle]at hrun0;cases tl with
   |none=>simp at hv
   |full=>have:caps=es.length:=htail;omega
   |tok id=>
    simp only at hv
    split at hv
    ·rename_i n sz hid
     split at hv
     ·rename_i hns;obtain⟨rfl,rfl⟩:=hns;cases hv;obtain⟨hborn,htok⟩:=htail;have hvt:E.view.tok id=some ⟨es.length,f.size,(E.tb id).bind λb=>match E.κ b with| .buf pos cend=>some (b,pos,cend)|_=>none⟩:=by
       simp only[aK.view,hid]<;>rfl
      obtain⟨_,ht2⟩:=htok _ hvt;rcases ht2 rfl with ht2| ⟨b,pos,cend,off,hl1,hl2,hl3,hl4⟩
      ·omega
      ·simp only at hl1 hl3 hl4;subst hl2;cases htb:E.tb id with
       |none=>rw[htb]at hl1;cases hl1
       |some b'=>
        rw[htb]at hl1;simp only[aM3]at hl1
        split at hl1
        ·rename_i pos' cend' hkb;simp only[Option.some.injEq,Prod.mk.injEq]at hl1;obtain⟨rfl,rfl,rfl⟩:=hl1;replace hl3:off+es.length*f.size=pos':=hl3;replace hl4:off+caps*f.size=cend':=hl4;obtain⟨arr,elem,posx,g1,g2⟩:=ho.bufs id _ _ _ hid htb;have hce:cend'=arr.size:=by rw[hkb]at g2;cases g2;rfl
         have hfit:pos'+arrx.size<=arr.size:=by
          rw[hxsz,<-hce,<-hl3,<-hl4];have:(es.length+xs.length)*f.size<=caps*f.size:=aNp _ hle;rw[aNu]at this;omega
         have hcellx:∀w∈arrx.toList,Value.isCell w=true:=by
          intro w hw;obtain⟨k,hk,rfl⟩:=List.getElem_of_mem hw;simp only[aMx]at hk;have hk':k<(aL xs).length:=by rw[<-r2.1];exact hk
          have:=r2.2 k hk';rw[aMt,aMy hk,aMz]at this;rw[Array.getElem_toList];refine this.isCell ?_;have hmem:=aNq hk';simp only[aL,List.mem_flatten,aNy]at hmem;obtain⟨l,⟨q,hq,rfl⟩,hql⟩:=hmem;exact aNz.1 (hc4 q hq).2 _ hql
         have hst:=tC (P:=P) b' pos' elem arrx.toList 0 E.w arr g1 hcellx (by simpa using hfit);have hp:pos'+arrx.toList.length=off+(es.length+xs.length)*f.size:=by
          rw[aMx,hxsz,aNu,<-hl3];omega
         have hlt:es.length<es.length+xs.length:=z8
         have hle':=aK.growIn_le ho hid hlt htb hkb arrx.toList hp;have hok':=aK.Ok.growIn ho hid hlt htb hkb arrx.toList hp;refine⟨_, .slice (some ⟨b',off,none⟩) (es.length+xs.length) caps, ?_,hle',hok',rfl, ?_⟩
         ·rw[hrun0];simp only[aM9,r1,aNa,dH,hl3,hst,aNc];rfl
         ·refine NR (E:=E) hle'.view hs hc3 hxs rfl (λk hk=> ?_) rfl hle hmax ⟨hle'.view.born _ hborn,λt' ht'=> ?_⟩
          ·obtain⟨arr',q1,q2,q3⟩:=qE b' pos' elem (0,0) arrx.toList 0 E.w arr g1;have hka:k<arrx.size:=by rw[hxsz];exact hk
           refine⟨arrx.getD k undef, ?_,λh=>(r2.2 k h).mono hle'.view⟩;refine aK.cell_of ?_ ?_
           ·simp only[aK.growIn,if_true,rN.stable,decide_eq_true_eq];rw[aNu];omega
           ·show World.cell? (iM E.w ⟨b',pos',none⟩ arrx.toList 0) _=_;rw[kF q1,q3 _ z8,if_pos (by rw[aMx (xs:=arrx),hxsz];omega)];rw[show off+es.length*f.size+k- (pos'+0)=k by omega];rw[aNk,aMt,aMy hka];rfl
          ·have hlen:=lG hid;simp only[aK.view,aK.growIn,aT hlen,if_true,htb,aM3,Option.some.injEq]at ht';subst ht';refine⟨aMq _,λ_=>.inr ⟨b',_,cend',off,rfl,rfl,rfl,hl4⟩⟩
        ·cases hl1
     ·cases hv
    ·cases hv
  ·
   rw[if_neg hle]at hrun0;obtain⟨c,hc6,hc7,hc8⟩:=kU (P:=P) (w:=E.w) (es.length+xs.length) caps e;have hcm:c<=maxLen:=by
    have:=hc8 (by have e2:maxLen=2^63-1:=rfl;omega);have e2:maxLen=2^63-1:=rfl;omega
   obtain⟨id,hid,rfl,rfl⟩:∃id,(E.H[id]? =some .unborn\/∃n0,E.H[id]? =some (.buf n0 f.size)/\n0<es.length+xs.length)/\v= .slice (es++xs) (.tok id)/\eff=some (id, .buf (es.length+xs.length) f.size):=by
    cases tl with
    |none=>simp at hv
    |full=>
     simp only[Option.some.injEq,Prod.mk.injEq]at hv;obtain⟨rfl,rfl⟩:=hv;exact⟨fresh, .inl (hfr _ rfl rfl),rfl,rfl⟩
    |tok id=>
     simp only at hv
     split at hv
     ·rename_i n sz hid
      split at hv
      ·rename_i hns;obtain⟨rfl,rfl⟩:=hns;cases hv;exact⟨id, .inr ⟨_,hid,z8⟩,rfl,rfl⟩
      ·cases hv
     ·cases hv
   have hd:=ho.drew;obtain⟨arrx,r1,r2⟩:=hxf _ hxs E.drew rfl;obtain⟨arrs,s1,s2,_⟩:=mP (P:=P) (E:=E.drew) hs hc3;have hxsz:arrx.size=xs.length*f.size:=by rw[r2.1,cE xs hxs]
   have hssz:arrs.size=es.length*f.size:=by rw[s2.1,cE es hc3]
   have hzl:=oL (V:=E.view) zv hzj (c- (es.length+xs.length))
   let arr:Array Value:=arrs++arrx++Builtin.zeroCells zv.cells (c- (es.length+xs.length))
   have harr:arr.size=c*f.size:=by
    simp only[arr,Array.size_append,hssz,hxsz,AY,hzv];rw[<-aNu,<-aNu];congr 1;omega
   have hle':=aK.newBuf_le (E:=E.drew) hd (n:=es.length+xs.length) (sz:=f.size) hid arr e ((es.length+xs.length)*f.size);have hok':=aK.Ok.newBuf (E:=E.drew) hd (n:=es.length+xs.length) (sz:=f.size) hid arr e ((es.length+xs.length)*f.size);have hlen:=sF (E:=E.drew) (n:=es.length+xs.length) hid;refine⟨_, .slice (some ⟨E.w.heap.size,0,none⟩) (es.length+xs.length) c, ?_,E.drew_le.trans hle',hok',rfl, ?_⟩
   ·rw[hrun0];have hc6':(choose (.appendCap (es.length+xs.length) caps e)).run P E.w= .ok c E.drew.w:=hc6;simp only[aM9,hc6',aNa,uI,s1,r1,aNc,Go.newRow,run_newObj];rfl
   ·have hall:∀q∈es++xs,q.cells.length=f.size:=by
     intro q hq;rcases aN0.1 hq with hq|hq
     ·exact hc3 q hq
     ·exact hxs q hq
    have hrl:=mN s2 r2;rw[<-eH]at hrl;have hfl:=cE _ hall;rw[aNo]at hfl;have hgd:∀k,k<(es.length+xs.length)*f.size->arr.getD k undef=(arrs++arrx).getD k undef:=by
     intro k hk;rw[aMt,aMt];rw[show arr=(arrs++arrx)++Builtin.zeroCells zv.cells (c- (es.length+xs.length))from rfl];rw[Array.getElem?_append_left (by rw[hrl.1,hfl];exact hk)]
    refine qX (sz:=f.size) (arr:=arr) (λk hk=> ?_) hall (λk hk=> ?_) aNo hc7 hcm ⟨⟨.buf (es.length+xs.length) f.size, ?_,zz⟩,λt' ht'=> ?_⟩
    ·rw[aNo]at hk;refine aK.cell_of ?_ ?_
     ·simp only[aK.newBuf,if_pos (show E.w.heap.size=E.drew.w.heap.size from rfl),rN.stable,decide_eq_true_eq];exact hk
     ·have hnew:(E.drew.newBuf id (es.length+xs.length) f.size arr e ((es.length+xs.length)*f.size)).w.heap[E.w.heap.size]? =some (.cells arr e (0,0)):=heap_alloc_new _ _;have hka:k<arr.size:=by
       rw[harr];have:(es.length+xs.length)*f.size<=c*f.size:=aNp _ hc7;omega
      rw[kF hnew,aMt,aMy hka];rfl
    ·rw[hgd k (by rw[hfl]at hk;exact hk)];exact(hrl.2 k hk).mono hle'.view
    ·simp only[aK.newBuf];exact aM4 hlen
    ·simp only[aK.view,aK.newBuf,aT hlen,if_true,aM3,Option.some.injEq]at ht';subst ht';refine⟨aMq _,λ_=>.inr ⟨E.w.heap.size,_,arr.size,0,rfl,rfl, ?_, ?_⟩⟩
     ·simp
     ·rw[harr];simp
 ·cases hv
theorem JR{t u ty:TypeId}{sv xv:Value}{s x:PV}(hs:aQ E.view sv s)(hx:aQ E.view xv x){ei:TypeId×TI}(hf:cJ P t=some ei){z:PV}(hz:cA P ei.1=some z)
  (hu:(cJ P u).isSome=true) (hzf:z.fits ei.2=true) {fresh:Nat} {v:PV} {eff:pK} (hv:cK ei.2 fresh E.H s x=some (v,eff)) (hfr:∀o,eff=some (fresh,o)->s≠ .junk->(∃es,s= .slice es .full)->E.H[fresh]? =some .unborn):
  ∃E' val,(Builtin.append_ #[t,u] ty #[sv,xv]).run P E.w= .ok val E'.w/\E.le E'/\E'.Ok/\E'.H=eff.app E.H/\aQ E'.view val v:=by
 obtain⟨e,i⟩:=ei;obtain⟨h1,h2⟩:=cS hf;obtain⟨d,f,h3,h4,rfl⟩:=cC h2;obtain⟨f',zv,h5,h6,rfl⟩:=eU hz;simp only at h5 hzf hv;rw[h4]at h5;cases h5;obtain⟨hzs,hzj⟩:=PV.fits_spec hzf;simp only at hzs;obtain⟨zc1,zc2⟩:=(dP E.view zv).not_junk_cells hzj;have hzv:zv.cells.size=f.size:=zc1.trans hzs;obtain⟨eu,hue⟩:∃eu,P.underlying u=some (.slice eu):=by
  cases hq:cJ P u with
  |none=>rw[hq]at hu;cases hu
  |some q=>obtain⟨q1,q2⟩:=q;exact⟨q1,(cS hq).1⟩
 unfold cK at hv
 split at hv
 ·rename_i es tl xs tlx
  split at hv
  ·
   rename_i hx0;subst hx0;cases hv;obtain⟨ad,cap,rfl,hcap,hmax⟩:∃ad cap,sv= .slice ad es.length cap/\es.length<=cap/\cap<=maxLen:=by
    cases hs with
    |nils _ _=>exact⟨none,0,rfl,aMq _,aNs _⟩
    |slice ad len cap sz _ _ vs hlen hcap hmax hsz hc hr ht=>subst hlen;exact⟨some ad,cap,rfl,hcap,hmax⟩
   obtain⟨ax,cx,rfl⟩:∃ax cx,xv= .slice ax 0 cx:=by
    cases hx with
    |nils _ _=>exact⟨none,0,rfl⟩
    |slice ad len cap sz _ _ vs hlen hcap hmax hsz hc hr ht=>simp at hlen;subst hlen;exact⟨some ad,cap,rfl⟩
   refine⟨E, .slice ad es.length cap, ?_, .refl E,ho,rfl,hs⟩;have hfc:∀(v:Value),(∃ax cx,v= .slice ax 0 cx)->(Builtin.firstCells f.size 0 v).run P E.w= .ok #[] E.w:=by
    rintro v ⟨ax,cx,rfl⟩;cases ax<;>simp only[Builtin.firstCells,Nat.zero_mul,loadCells,loadCellsFrom,aNc]
   simp only[Builtin.append_,aNf,aNw,aM8,aM9,aP h1,cQ h4,aP hue,aNa,aNc,Builtin.lenOf,aNm,aNh,if_false,
    aNx,if_true,hcap,hfc _ ⟨ax,cx,rfl⟩]
   cases ad<;>simp[storeCells]
  ·rename_i hx0;refine DZ ho hs hx0 (λw=> ?_) (λsz hxs D hD=> ?_) hf hz (.inl ⟨_,hue⟩) hzf hv (λo h1 h2=>hfr o h1 zz ⟨es,by rw[h2]⟩)
   ·cases hx with
    |nils _ _=>rfl
    |slice ad len cap sz _ _ vs hlen hcap hmax hsz hc hr ht=>subst hlen;rfl
   ·obtain⟨arrx,r1,r2,_⟩:=mP (P:=P) (E:=D) (by rw[hD];exact hx) hxs;exact⟨arrx,r1,by rw[hD]at r2;exact r2⟩
 ·cases hv
end ops
theorem SR{P:Program}{w:World}{op:BinOp}{t:TypeId}{x y:Operand}{k k':IntKind}{a b:Int}:(eqGuard op t x y (.int k a) (.int k' b)).run P w= .ok () w:=by cases op<;>rfl
theorem NT{P:Program}{w:World}{op:BinOp}{t:TypeId}{x y:Operand}{a b:Bool}:(eqGuard op t x y (.bool a) (.bool b)).run P w= .ok () w:=by cases op<;>rfl
theorem FF{P:Program}{w:World}{op:BinOp}{t:TypeId}{x y:Operand}{a b:ByteArray}:(eqGuard op t x y (.string a) (.string b)).run P w= .ok () w:=by cases op<;>rfl
theorem yK{P:Program}{w:World}{op:BinOp}{t:TypeId}{x y:Operand}{a b:Option Addr}:(eqGuard op t x y (.pointer a) (.pointer b)).run P w= .ok () w:=by cases op<;>rfl
section ops
variable{P:Program}{E:aK}{N:Nat}{a:Act}{T:Nat->PV}(ht:eR E.view N a T)
theorem UX{op:BinOp}{xt:TypeId}{x y:Operand}{vx vy:Value}{px py:PV}(hx:aQ E.view vx px)(hy:aQ E.view vy py){v:PV}(hv:eC P op xt px py=some v):∃val,(do eqGuard op xt x y vx vy;binOp op xt vx vy:Sem Value).run P E.w= .ok val E.w/\aQ E.view val v:=by
  unfold eC at hv
  split at hv
  ·
    rename_i k n k' n';obtain rfl:=hx.int_inv;obtain rfl:=hy.int_inv
    split at hv
    · rename_i hk
      subst hk;have hg:= @SR P E.w op xt x y k k n n';cases op<;>simp only[aM9,hg,aNa]<;>simp only[reduceCtorEq,Option.some.injEq]at hv
      case add=>subst hv;exact⟨_,by simp only[binOp,ne_eq,not_true_eq_false,if_false,Op.intArith,aNc], .int _ _⟩
      case sub=>subst hv;exact⟨_,by simp only[binOp,ne_eq,not_true_eq_false,if_false,Op.intArith,aNc], .int _ _⟩
      case mul=>subst hv;exact⟨_,by simp only[binOp,ne_eq,not_true_eq_false,if_false,Op.intArith,aNc], .int _ _⟩
      case quo=>
        split at hv
        · cases hv
        · rename_i hz;cases hv;exact⟨_,by simp only[binOp,ne_eq,not_true_eq_false,if_false,Op.intDiv,hz,aNc], .int _ _⟩
      case rem=>
        split at hv
        · cases hv
        · rename_i hz;cases hv;exact⟨_,by simp only[binOp,ne_eq,not_true_eq_false,if_false,Op.intDiv,hz,aNc], .int _ _⟩
      case eql=>subst hv;exact⟨.bool (n==n'),by simp only[binOp,ne_eq,not_true_eq_false,if_false,Op.intCmp,aNc], .bool _⟩
      case neq=>subst hv;exact⟨.bool (n != n'),by simp only[binOp,ne_eq,not_true_eq_false,if_false,Op.intCmp,aNc], .bool _⟩
      all_goals (subst hv;exact⟨_,by simp only[binOp,ne_eq,not_true_eq_false,if_false,Op.intCmp,aNc], .bool _⟩)
    · cases hv
  ·
    rename_i b b';obtain rfl:=hx.bool_inv;obtain rfl:=hy.bool_inv
    split at hv
    · rename_i hb
      unfold aAc at hb
      split at hb
      · rename_i hu
        have hg:= @NT P E.w op xt x y b b';have he:(Op.equal xt (.bool b) (.bool b')).run P E.w= .ok (b==b') E.w:=by
          have key:∀d,(Op.equalIn (d+1) xt (.bool b) (.bool b')).run P E.w= .ok (b==b') E.w:=by
            intro d;simp only[Op.equalIn,aM9,aP hu,aNa,aNc]
          exact key 9999
        cases op<;>simp only[aM9,hg,aNa]<;>simp only[reduceCtorEq,Option.some.injEq]at hv
        all_goals (subst hv;exact⟨_,by simp only[binOp,aM9,he,aNa,aNc,Bool.not_true,aNx], .bool _⟩)
      · cases hb
    · cases hv
  ·
    rename_i s s';cases hx with
    |str s=>
      cases hy with
      |str s'=>
        have hg:= @FF P E.w op xt x y s s';have hsz:∀s:ByteArray,s.size=s.data.toList.length:=λs=>rfl;cases op<;>simp only[aM9,hg,aNa]<;>simp only[reduceCtorEq,Option.some.injEq]at hv
        case add=>
          split at hv
          · rename_i hl
            cases hv;have e1:IntKind.i64.max=9223372036854775807:=z7
            have e2:maxLen=9223372036854775807:=z7
            have hb:¬((s.size+s'.size:Nat):Int)>IntKind.i64.max:=by rw[e1,hsz,hsz];rw[e2]at hl;omega
            refine⟨.string (s++s'), ?_, ?_⟩
            · simp only[binOp,Op.stringOp,if_neg hb,Sem.run_ite,aNc]
            · have:(s++s').data.toList=s.data.toList++s'.data.toList:=zz
              rw[<-this];exact .str _
          · cases hv
        all_goals (subst hv;refine⟨_,by simp only[binOp,Op.stringOp,aNc];rfl, ?_⟩;simp only[ByteArray.toList_eq])
        · rw[show(s.data.toList==s'.data.toList)=decide (s.data.toList=s'.data.toList)by rw[aN1];simp];exact .bool _
        · rw[show(s.data.toList==s'.data.toList)=decide (s.data.toList=s'.data.toList)by rw[aN1];simp];exact .bool _
        · exact .bool _
  ·
    split at hv
    · rename_i hb
      unfold iW at hb
      split at hb
      · rename_i el hu
        cases hx;cases hy;have hg:= @yK P E.w op xt x y none none;have he:(Op.equal xt (.pointer none) (.pointer none)).run P E.w= .ok true E.w:=by
          have key:∀d,(Op.equalIn (d+1) xt (.pointer none) (.pointer none)).run P E.w= .ok true E.w:=by
            intro d;simp only[Op.equalIn,aM9,aP hu,aNa,aNc,Option.isNone_none]
          exact key 9999
        cases op<;>simp only[aM9,hg,aNa]<;>simp only[reduceCtorEq,Option.some.injEq]at hv
        all_goals (subst hv;exact⟨_,by simp only[binOp,aM9,he,aNa,aNc,Bool.not_true,aNx], .bool _⟩)
      · cases hb
    · cases hv
  · split at hv
    · rename_i hb
      unfold iW at hb
      split at hb
      · rename_i el hu
        obtain⟨ad,vs,rfl,_,_⟩:=hx.iptr_inv;cases hy;have hg:= @yK P E.w op xt x y (some ad) none;have he:(Op.equal xt (.pointer (some ad)) (.pointer none)).run P E.w= .ok false E.w:=by
          have key:∀d,(Op.equalIn (d+1) xt (.pointer (some ad)) (.pointer none)).run P E.w= .ok false E.w:=by
            intro d;simp only[Op.equalIn,aM9,aP hu,aNa,aNc]
          exact key 9999
        cases op<;>simp only[aM9,hg,aNa]<;>simp only[reduceCtorEq,Option.some.injEq]at hv
        all_goals (subst hv;exact⟨_,by simp only[binOp,aM9,he,aNa,aNc,Bool.not_true,aNx], .bool _⟩)
      · cases hb
    · cases hv
  · split at hv
    · rename_i hb
      unfold iW at hb
      split at hb
      · rename_i el hu
        obtain⟨rfl,_⟩:=hx.optr_inv;cases hy;have hg:=λad=> @yK P E.w op xt x y (some ad) none;have he:∀ad,(Op.equal xt (.pointer (some ad)) (.pointer none)).run P E.w= .ok false E.w:=by
          intro ad;have key:∀d,(Op.equalIn (d+1) xt (.pointer (some ad)) (.pointer none)).run P E.w= .ok false E.w:=by
            intro d;simp only[Op.equalIn,aM9,aP hu,aNa,aNc]
          exact key 9999
        cases op<;>simp only[aM9,hg,aNa]<;>simp only[reduceCtorEq,Option.some.injEq]at hv
        all_goals (subst hv;exact⟨_,by simp only[binOp,aM9,he,aNa,aNc,Bool.not_true,aNx], .bool _⟩)
      · cases hb
    · cases hv
  · cases hv
theorem XJ{op:UnOp}{vx:Value}{px:PV}(hx:aQ E.view vx px){v:PV}(hv:aun op px=some v):∃val,(Op.unary op vx).run P E.w= .ok val E.w/\aQ E.view val v:=by
  unfold aun at hv
  split at hv
  · obtain rfl:=hx.bool_inv;cases hv;exact⟨_,rfl, .bool _⟩
  · obtain rfl:=hx.int_inv;cases hv;exact⟨_,rfl, .int _ _⟩
  · cases hv
theorem DX{s d:TypeId}{vx:Value}{k0:IntKind}{n:Int}(hx:aQ E.view vx (.int k0 n)){k:IntKind}(hk:AG P d=some k)(hs:(P.underlying s).isSome=true):∃val,(convert s d vx).run P E.w= .ok val E.w/\aQ E.view val (.int k (k.wrap n)):=by
  obtain rfl:=hx.int_inv;unfold AG at hk
  split at hk
  · rename_i k' hu
    cases hk;cases hq:P.underlying s with
    |none=>rw[hq]at hs;cases hs
    |some ds=>
      refine⟨.int k (k.wrap n), ?_, .int _ _⟩;simp only[convert,aM9,aP hq,aP hu,aNa,Conv.intToInt,aNc]
  · cases hk
theorem gY(n:Nat)(z:PV):aL (aNb n z)=(aNb n z.cells).flatten:=by simp[aL]
theorem AC(p:PV):p.drop1.cells=p.cells.map PV.drop0:=by cases p<;>rfl
theorem aQ.elems_drop1{V:cG}{v:Value}{es:List PV}{tl:bE}(h:aQ V v (.slice es tl)):aQ V v (.slice (es.map PV.drop1) tl):=by
  cases h with
  |nils _ ht=>exact .nils _ ht
  |slice a len cap sz _ _ vs hlen hcap hmax hsz hc hr ht=>
    refine .slice a len cap sz _ _ vs (by simpa using hlen) hcap hmax (λi h=> ?_) hc (λi j hi hj=> ?_) ht
    · simp only[aMm,PV.drop1_cells_length];exact hsz i (by simpa using h)
    · have hi':i<es.length:=by simpa using hi
      have hj':j<(es[i].cells).length:=by simpa[PV.drop1_cells_length]using hj
      have h0:=(hr i j hi' hj').drop0;have he:(((es.map PV.drop1)[i]).cells)[j]=(es[i].cells)[j].drop0:=by
        simp only[aMm,AC]
      rw[he];exact h0
theorem AD(ho:E.Ok){t:TypeId}{lv cv:Value}{l c:PV}(hl:aQ E.view lv l)(hc:aQ E.view cv c){ei:TypeId×TI}(hf:cJ P t=some ei){z:PV}(hz:cA P ei.1=some z){mt:Bool}{fresh:Nat}{v:PV}{eff:pK}(hv:mJ mt z ei.2 fresh l c=some (v,eff))(hfr:∀o,eff=some (fresh,o)->E.H[fresh]? =some .unborn):∃E' val,(Instr.makeSlice t lv cv).run P E.w= .ok val E'.w/\E.le E'/\E'.Ok/\E'.H=eff.app E.H/\aQ E'.view val v:=by
  obtain⟨e,i⟩:=ei;obtain⟨h1,h2⟩:=cS hf;obtain⟨d,f,h3,h4,rfl⟩:=cC h2;obtain⟨f',zv,h5,h6,rfl⟩:=eU hz;simp only at h5 hv;rw[h4]at h5;cases h5;unfold mJ at hv
  split at hv
  · rename_i l c
    obtain rfl:=hl.int_inv;obtain rfl:=hc.int_inv
    split at hv
    · rename_i hcnd
      obtain⟨c1,c2,c3,c4,c5,c6⟩:=hcnd;simp only at c3 c5 c6;obtain⟨hzs,hzj⟩:=PV.fits_spec c5;simp only at hzs;obtain⟨zc1,zc2⟩:=(dP E.view zv).not_junk_cells hzj;have hzv:zv.cells.size=f.size:=zc1.trans hzs;have e2:maxLen=9223372036854775807:=z7
      have hw:∀n:Int,0<=n->n<=maxLen->IntKind.i64.wrap n=n:=by
        intro n h0 h1;rw[e2]at h1;simp[IntKind.wrap,IntKind.bits,IntKind.signed];omega
      have hwl:=hw l c1 z8;have hwc:=hw c z8 c4;have htl:¬((f.bytes:Int)*c>2^48):=by
        rw[Int.mul_comm];have:(2:Int)^47<=2^48:=z7
        omega
      let arr:Array Value:=(Array.range (c.toNat*f.size)).map (zv.cells[· %zv.cells.size]!)
      have hrl0:=oL (V:=E.view) zv hzj c.toNat
      rw[hzv]at hrl0;have harr:arr.size=c.toNat*f.size:=by simp[arr]
      have hrun:(Instr.makeSlice t (.int .i64 l) (.int .i64 c)).run P E.w= .ok (.slice (some ⟨E.w.heap.size,0,none⟩) l.toNat c.toNat) (E.w.alloc (.cells arr e)):=by
        simp only[Instr.makeSlice,aM9,aP h1,aNa,asInt,asIntOf,aNc,mQ h4,hwl,hwc];have hn1:¬c<0:=z8
        have hn2:¬l<0:=z8
        have hn3:¬l>c:=z8
        simp only[hn1,hn2,hn3,htl,decide_false,Bool.or_self,aNh,if_false,aM9,uI,aNa,cQ h4]
        by_cases h0:c.toNat*f.size=0
        · simp only[h0,if_true,aNc,aNa,newRow,aM9,run_newObj]
          have:arr= #[]:=by simp only[arr,h0];simp
          rw[this];simp[Array.range]
        · simp only[if_neg h0,aM9,jF h4 h6,aNa,aNc,newRow,run_newObj]
          simp only[arr,hzv];rfl
      have hes:∀q∈aNb c.toNat (aW zv),q.cells.length=f.size:=by
        intro q hq;rw[(List.mem_replicate.1 hq).2,hzs]
      have hrl:RL E.view arr (aL (aNb c.toNat (aW zv))):=by
        simp only[arr,hzv];exact hrl0
      have hcm:c.toNat<=maxLen:=z8
      split at hv
      ·
        cases hv;have hid:=hfr _ rfl;rw[gY]at hrl;refine⟨E.newRow fresh arr e _,_,hrun,aK.newRow_le ho hid _ _ _,aK.Ok.newRow ho hid arr e _ hrl.1 hrl.2,rfl, ?_⟩;have:=aQ.msl (V:=(E.newRow fresh arr e ((aNb c.toNat (aW zv).cells).flatten)).view) fresh 0 l.toNat c.toNat
          ⟨.row _,by simp only[aK.newRow];exact aM4 (lG hid),zz⟩ hcm
        simpa[aK.view,aK.newRow]using this
      · split at hv
        · rename_i hlc
          subst hlc;cases hv;have hle:=aK.newFixed_le ho (.cells arr e);refine⟨E.newFixed (.cells arr e),_,hrun,hle,ho.newFixed _,rfl, ?_⟩;rw[<-List.map_replicate];exact(qZ (sz:=f.size) vA hes (hrl.mono hle.view) zz hcm).elems_drop1
        · rename_i hlc
          cases hv;have hid:=hfr _ rfl;have hle:=aK.newBuf_le ho (n:=l.toNat) (sz:=f.size) (.inl hid) arr e (l.toNat*f.size);have hlen:=lG hid;refine⟨E.newBuf fresh l.toNat f.size arr e (l.toNat*f.size),_,hrun,hle,aK.Ok.newBuf ho (.inl hid) arr e _,rfl, ?_⟩;have hlen2:(aNb l.toNat (aW zv)).length=l.toNat:=zz
          have hes':∀q∈aNb l.toNat (aW zv),q.cells.length=f.size:=by
            intro q hq;rw[(List.mem_replicate.1 hq).2,hzs]
          have hle2:l.toNat*f.size<=c.toNat*f.size:=aNp _ z8;have hfl:=cE _ hes';rw[hlen2]at hfl;have hfl2:=cE _ hes;rw[List.length_replicate]at hfl2;rw[<-List.map_replicate];refine aQ.elems_drop1 (qX (sz:=f.size) (arr:=arr) (λk hk=> ?_) hes' (λk hk=> ?_) hlen2 z8 hcm ⟨⟨.buf l.toNat f.size, ?_,zz⟩,λt' ht'=> ?_⟩)
          · rw[hlen2]at hk
            refine aK.cell_of ?_ ?_
            · simp only[aK.newBuf,if_true,rN.stable,decide_eq_true_eq];exact hk
            · have hnew:(E.newBuf fresh l.toNat f.size arr e (l.toNat*f.size)).w.heap[E.w.heap.size]? =some (.cells arr e (0,0)):=heap_alloc_new _ _
              rw[kF hnew,aMt,aMy z8];rfl
          · rw[hfl]at hk
            have hk2:k<(aL (aNb c.toNat (aW zv))).length:=by rw[hfl2];omega
            have h':=hrl.2 k hk2;have heq:(aL (aNb l.toNat (aW zv)))[k]'(by rw[hfl];exact hk)=(aL (aNb c.toNat (aW zv)))[k]:=by
              have:aNb c.toNat (aW zv)=aNb l.toNat (aW zv)++aNb (c.toNat-l.toNat) (aW zv):=by
                rw[List.replicate_append_replicate];congr 1;omega
              have h3:aL (aNb c.toNat (aW zv))=aL (aNb l.toNat (aW zv))++aL (aNb (c.toNat-l.toNat) (aW zv)):=by rw[this,eH]
              have h4:=aM0 (l₂:=aL (aNb (c.toNat-l.toNat) (aW zv))) (show k<(aL (aNb l.toNat (aW zv))).length by rw[hfl];exact hk);rw[<-h3,aNi hk2,aNi (by rw[hfl];exact hk)]at h4;simpa using h4.symm
            rw[heq];exact h'.mono hle.view
          · simp only[aK.newBuf];exact aM4 hlen
          · simp only[aK.view,aK.newBuf,aT hlen,if_true,aM3,Option.some.injEq]at ht'
            subst ht';refine⟨aMq _,λ_=>.inr ⟨E.w.heap.size,_,arr.size,0,rfl,rfl, ?_, ?_⟩⟩
            · simp
            · rw[harr];simp
    · cases hv
  · cases hv
end ops
section
variable{P:Program}
theorem vU{i:Nat}{f:Field}(h:LL P i f=true):f.name≠ "_" /\f.offset=i/\P.underlying f.type=some (.int .i64):=by
 unfold LL at h;simp only[aMj,decide_eq_true_eq]at h;obtain⟨⟨h1,h2⟩,h3⟩:=h;refine⟨h1,h2, ?_⟩
 split at h3
 ·assumption
 ·cases h3
structure XZ(P:Program)(k:TypeId)(a b c:Field):Prop where
 ut:P.underlying k=some (.struct #[a,b,c])
 fa:a.name≠ "_" /\a.offset=0/\P.underlying a.type=some (.int .i64)
 fb:b.name≠ "_" /\b.offset=1/\P.underlying b.type=some (.int .i64)
 fc:c.name≠ "_" /\c.offset=2/\P.underlying c.type=some (.int .i64)
 held:P.stoodInHeld k=false
theorem rL{t e:TypeId}(h:rC P t=some e):∃k a b c,P.underlying t=some (.map k e)/\XZ P k a b c:=by
 unfold rC at h
 split at h
 ·rename_i k e' hu
  split at h
  ·rename_i fs hk
   split at h
   ·rename_i a b c hl
    split at h
    ·rename_i hc;cases h;simp only[aMj,aMk]at hc;obtain⟨⟨⟨⟨h1,h2⟩,h3⟩,h4⟩,h5⟩:=hc;have hfs:fs= #[a,b,c]:=by
      apply Array.ext';rw[hl]
     exact⟨k,a,b,c,hu,⟨by rw[hk,hfs],vU h1,vU h2,vU h3,h4⟩⟩
    ·cases h
   ·cases h
  ·cases h
 ·cases h
theorem DY{t:TypeId}(h:P.underlying t=some (.int .i64))(w:World):(isAgg t).run P w= .ok false w:=by
 unfold isAgg;simp only[aM9,run_underlying h,aNa];rfl
theorem gF{t:TypeId}(h:P.underlying t=some (.int .i64)){xs:Array Value}{i:Nat}{v:Value}(hi:xs[i]? =some v)(w:World):(part t xs i).run P w= .ok v w:=by
 unfold part;simp only[aM9,DY h,aNa,aNh,if_false,hi];rfl
theorem OV{k:TypeId}{a b c:Field}(K:XZ P k a b c)(x y:Int×Int×Int)(w:World):(Op.equal k (fU x) (fU y)).run P w= .ok (decide (x=y)) w:=by
 have hf:P.fieldsOf k= #[a,b,c]:=by unfold Program.fieldsOf;rw[K.ut]
 show(Op.equalIn (9999+1) k _ _).run P w=_;unfold fU;rw[run_equalIn_struct w 9999 k _ _ (by rw[hf];exact K.ut) K.held,hf];obtain⟨a1,a2,a3⟩:=K.fa;obtain⟨b1,b2,b3⟩:=K.fb;obtain⟨c1,c2,c3⟩:=K.fc;obtain⟨x1,x2,x3⟩:=x;obtain⟨y1,y2,y3⟩:=y;show(Op.eqFields 9999 _ _ [a,b,c]).run P w=_;have ea:∀w,(part a.type #[Value.int .i64 x1, .int .i64 x2, .int .i64 x3] 0).run P w= .ok (.int .i64 x1) w:=λw=>gF a3 rfl w;have eb:∀w,(part b.type #[Value.int .i64 x1, .int .i64 x2, .int .i64 x3] 1).run P w= .ok (.int .i64 x2) w:=λw=>gF b3 rfl w;have ec:∀w,(part c.type #[Value.int .i64 x1, .int .i64 x2, .int .i64 x3] 2).run P w= .ok (.int .i64 x3) w:=λw=>gF c3 rfl w;have fa:∀w,(part a.type #[Value.int .i64 y1, .int .i64 y2, .int .i64 y3] 0).run P w= .ok (.int .i64 y1) w:=λw=>gF a3 rfl w;have fb:∀w,(part b.type #[Value.int .i64 y1, .int .i64 y2, .int .i64 y3] 1).run P w= .ok (.int .i64 y2) w:=λw=>gF b3 rfl w;have fc:∀w,(part c.type #[Value.int .i64 y1, .int .i64 y2, .int .i64 y3] 2).run P w= .ok (.int .i64 y3) w:=λw=>gF c3 rfl w;have ei:∀(t:TypeId),P.underlying t=some (.int .i64)->∀(p q:Int) (w:World),(Op.equalIn 9999 t (.int .i64 p) (.int .i64 q)).run P w= .ok (p==q) w:=λt ht p q w=>run_equalIn_int w 9998 t _ _ _ _ ht;simp only[Op.eqFields,if_pos a1,if_pos b1,if_pos c1,a2,b2,c2,aM9,ea,eb,ec,fa,fb,fc,aNa,ei a.type a3,ei b.type b3,ei c.type c3,Sem.run_ite,aNc]
 by_cases h1:x1=y1<;>by_cases h2:x2=y2<;>by_cases h3:x3=y3<;>simp[h1,h2,h3,Prod.mk.injEq]
theorem tX{k:TypeId}(hk:P.underlying k=some (.int .i64))(b:Bool)(m:Nat)(n:Int)(w:World):(Instr.checkKey b (m+1) k (.int .i64 n)).run P w= .ok () w:=by
 rw[Instr.checkKey.eq_2];simp only[aM9,aP hk,aNa,aNc]
theorem mF{k:TypeId}{a b c:Field}(K:XZ P k a b c)(em:Bool)(x:Int×Int×Int)(w:World):(Instr.checkKey em 10000 k (fU x)).run P w= .ok () w:=by
 obtain⟨a1,a2,a3⟩:=K.fa;obtain⟨b1,b2,b3⟩:=K.fb;obtain⟨c1,c2,c3⟩:=K.fc;obtain⟨x1,x2,x3⟩:=x;have ea:∀w,(part a.type #[Value.int .i64 x1, .int .i64 x2, .int .i64 x3] 0).run P w= .ok (.int .i64 x1) w:=λw=>gF a3 rfl w;have eb:∀w,(part b.type #[Value.int .i64 x1, .int .i64 x2, .int .i64 x3] 1).run P w= .ok (.int .i64 x2) w:=λw=>gF b3 rfl w;have ec:∀w,(part c.type #[Value.int .i64 x1, .int .i64 x2, .int .i64 x3] 2).run P w= .ok (.int .i64 x3) w:=λw=>gF c3 rfl w;rw[show(10000:Nat)=Nat.succ (9998+1)from rfl,Instr.checkKey.eq_2];simp only[aM9,aP K.ut,aNa,fU,List.forIn_toArray,List.forIn_cons,List.forIn_nil,if_pos a1,if_pos b1,if_pos c1,a2,b2,c2,ea,eb,ec,tX a3,tX b3,tX c3,aNc,Sem.run_ite]
end
theorem oB{α β:Type}{o:Option α}{f:α->Option β}{b:β}(h:o.bind f=some b):∃a,o=some a/\f a=some b:=Option.bind_eq_some_iff.mp h
def aK.newObj(E:aK)(id:Nat)(o:Obj)(k:rA):aK:=
 {w:=E.w.alloc o,κ:=λb=>if b=E.w.heap.size then .mut else E.κ b,ρ:=λi=>if i=id then E.w.heap.size else E.ρ i,tb:=E.tb,H:=E.H.set id (.obj k)}
section newObj
variable{E:aK}(h:E.Ok){id:Nat}(hi:E.H[id]? =some .unborn)(o:Obj)(k:rA)
include h hi
theorem aK.newObj_view:E.view.le (E.newObj id o k).view:=by
 have hlen:=lG hi;have hne:∀x,pG E.H x->x≠id:=by rintro x ⟨o,h1,h2⟩ rfl;rw[hi]at h1;cases h1;exact h2 rfl
 refine⟨λa v hc=> ?_,λx hb=> ?_,λx hb=> ?_,λx t' hb ht=>⟨t', ?_, .inl rfl⟩⟩
 ·have hl:=cell?_lt (aK.cell_stable hc);simp only[aK.view]at hc⊢
  split at hc
  ·rename_i hs;have hne:a.block≠E.w.heap.size:=z8
   simp only[aK.newObj,if_neg hne,hs,if_true];rw[cell?_congr (heap_alloc _ _ _ hl)];exact hc
  ·cases hc
 ·have:=hne x hb;obtain⟨o,h1,h2⟩:=hb;exact⟨o,by simp only[aK.newObj,aT hlen,if_neg this];exact h1,h2⟩
 ·simp only[aK.view,aK.newObj,if_neg (hne x hb)]
 ·have:=hne x hb;simp only[aK.view,aK.newObj,aT hlen,if_neg this]at ht⊢
  split at ht
  ·rename_i n sz hx;rw[<-ht];cases htb:E.tb x with
   |none=>rfl
   |some b=>
    have:=h.bufBlock hx htb;have hne:b≠E.w.heap.size:=z8
    simp only[aM3,if_neg hne]
  ·cases ht
theorem aK.newObj_le:E.le (E.newObj id o k):=by
 have hlen:=lG hi;refine⟨rfl,rfl,rfl,by simp[aK.newObj],λb hb _=>⟨?_,heap_alloc _ _ _ hb⟩,aK.newObj_view h hi o k,λb hb=>Or.imp ?_ (Or.imp ?_ ?_)⟩
 ·have hne:b≠E.w.heap.size:=z8
  simp only[aK.newObj,if_neg hne]
 ·rintro⟨x,cs',h1,h2⟩;simp only[aK.newObj,aT hlen]at h1 h2
  split at h1
  ·cases h1
  ·rename_i e;rw[if_neg e]at h2;exact⟨x,cs',h1,h2⟩
 ·rintro⟨x,n,sz,h1,h2⟩;simp only[aK.newObj,aT hlen]at h1 h2
  split at h1
  ·cases h1
  ·exact⟨x,n,sz,h1,h2⟩
 ·rintro⟨x,k',h1,h2⟩;simp only[aK.newObj,aT hlen]at h1 h2
  split at h1
  ·rename_i e;rw[if_pos e]at h2;omega
  ·rename_i e;rw[if_neg e]at h2;exact⟨x,k',h1,h2⟩
theorem aK.Ok.newObj(hr:OR E.view k o):(E.newObj id o k).Ok:=by
 have hlen:=lG hi;have hv:=aK.newObj_view h hi o k;refine⟨?_, ?_, ?_, ?_,h.globs_of hv.cell (by intro x b vs hx;simp only[aK.newObj,aT hlen]at hx;split at hx<;>first|exact hx|cases hx), ?_, ?_⟩
 ·intro x cs' hx;simp only[aK.newObj,aT hlen]at hx
  split at hx
  ·cases hx
  ·rename_i e;have hl:=h.rowBlock hx;obtain⟨arr',elem',h1,h2,h3,h4⟩:=h.rows x cs' hx;have hne:E.ρ x≠E.w.heap.size:=z8
   refine⟨arr',elem', ?_,h2,λi hl=>(h3 i hl).mono hv, ?_⟩
   ·simp only[aK.newObj,if_neg e];rw[<-h1];exact heap_alloc _ _ _ hl
   ·simp only[aK.newObj,if_neg e,if_neg hne];exact h4
 ·intro x n sz b hx hb;simp only[aK.newObj,aT hlen]at hx hb
  split at hx
  ·cases hx
  ·have hl:=h.bufBlock hx hb;obtain⟨arr',elem',pos,h1,h2⟩:=h.bufs x n sz b hx hb;have hne:b≠E.w.heap.size:=z8
   exact⟨arr',elem',pos,by rw[<-h1];exact heap_alloc _ _ _ hl,by simp only[aK.newObj,if_neg hne];exact h2⟩
 ·intro x x' c c' h1 h2 e;simp only[aK.newObj,aT hlen]at h1 h2 e
  split at h1<;>split at h2
  ·cases h1
  ·cases h1
  ·cases h2
  ·rename_i a b;rw[if_neg a,if_neg b]at e;exact h.injr x x' c c' h1 h2 e
 ·intro x x' n sz n' sz' b h1 h2 e e';simp only[aK.newObj,aT hlen]at h1 h2 e e'
  split at h1<;>split at h2
  ·cases h1
  ·cases h1
  ·cases h2
  ·exact h.injb x x' n sz n' sz' b h1 h2 e e'
 ·intro x k' hx;simp only[aK.newObj,aT hlen]at hx
  split at hx
  ·rename_i e;cases hx;exact⟨⟨o,by simp only[aK.newObj,if_pos e];exact heap_alloc_new _ _,hr.mono hv⟩,by simp only[aK.newObj,if_pos e,if_true]⟩
  ·rename_i e;have hl:=h.objs.lt hx;obtain⟨⟨o',a1,a2⟩,a3⟩:=h.objs.at_ x k' hx;refine⟨⟨o', ?_,a2.mono hv⟩, ?_⟩
   ·simp only[aK.newObj,if_neg e];rw[<-a1];exact heap_alloc _ _ _ hl
   ·simp only[aK.newObj,if_neg e,if_neg (Nat.ne_of_lt hl)];exact a3
 ·intro x x' c c' h1 h2 e;simp only[aK.newObj,aT hlen]at h1 h2 e
  split at h1<;>split at h2
  ·omega
  ·rename_i a b;rw[if_pos a,if_neg b]at e;have:=h.objs.lt h2;omega
  ·rename_i a b;rw[if_neg a,if_pos b]at e;have:=h.objs.lt h1;omega
  ·rename_i a b;rw[if_neg a,if_neg b]at e;exact h.objs.inj x x' c c' h1 h2 e
end newObj
def aK.setObj(E:aK)(id:Nat)(w':World)(k:rA):aK:= {E with w:=w',H:=E.H.set id (.obj k)}
structure World.Turned(w w':World)(b:Nat):Prop where
 os:w'.os=w.os
 tape:w'.tape=w.tape
 output:w'.output=w.output
 size:w'.heap.size=w.heap.size
 other:∀x,x≠b->w'.heap[x]? =w.heap[x]?
section setObj
variable{E:aK}(h:E.Ok){id:Nat}{k0:rA}(hi:E.H[id]? =some (.obj k0)){w':World}(ht:World.Turned E.w w' (E.ρ id))(k:rA)
include h hi ht
theorem aK.setObj_view:E.view.le (E.setObj id w' k).view:=by
 have hlen:=lG hi;obtain⟨_,hk⟩:=h.objs.at_ id k0 hi;refine⟨λa u hc=> ?_,λx hb=> ?_,λx hb=>rfl,λx t' hb hx=>⟨t', ?_, .inl rfl⟩⟩
 ·simp only[aK.view]at hc⊢
  split at hc
  ·rename_i hs;have hne:a.block≠E.ρ id:=by intro e;rw[e,hk]at hs;simp[rN.stable]at hs
   simp only[aK.setObj,hs,if_true];rw[cell?_congr (ht.other _ hne)];exact hc
  ·cases hc
 ·obtain⟨o,a1,a2⟩:=hb
  by_cases e:x=id
  ·exact⟨.obj k,by simp only[aK.setObj,aT hlen,if_pos e],zz⟩
  ·exact⟨o,by simp only[aK.setObj,aT hlen,if_neg e];exact a1,a2⟩
 ·by_cases e:x=id
  ·simp only[aK.view,aK.setObj,aT hlen,if_pos e]at hx;cases hx
  ·simp only[aK.view,aK.setObj,aT hlen,if_neg e]at hx⊢;exact hx
theorem aK.setObj_le:E.le (E.setObj id w' k):=by
 have hlen:=lG hi;refine⟨ht.os,ht.tape,ht.output,by show _<=w'.heap.size;rw[ht.size];exact aMq _,λb hb hn=>⟨rfl,ht.other _ λe=>hn (.inr (.inr ⟨id,k0,hi,e.symm⟩))⟩,aK.setObj_view h hi ht k,λb hb=>Or.imp ?_ (Or.imp ?_ ?_)⟩
 ·rintro⟨x,cs',a1,a2⟩;simp only[aK.setObj,aT hlen]at a1 a2
  split at a1
  ·cases a1
  ·exact⟨x,cs',a1,a2⟩
 ·rintro⟨x,n,sz,a1,a2⟩;simp only[aK.setObj,aT hlen]at a1 a2
  split at a1
  ·cases a1
  ·exact⟨x,n,sz,a1,a2⟩
 ·rintro⟨x,k',a1,a2⟩;simp only[aK.setObj,aT hlen]at a1 a2
  split at a1
  ·rename_i e;exact⟨id,k0,hi,by rw[<-e];exact a2⟩
  ·exact⟨x,k',a1,a2⟩
theorem aK.Ok.setObj(hr:∃o,w'.heap[E.ρ id]? =some o/\OR E.view k o):(E.setObj id w' k).Ok:=by
 have hlen:=lG hi;have hle:=aK.setObj_view h hi ht k;obtain⟨⟨o0,h1,h2⟩,h3⟩:=h.objs.at_ id k0 hi;refine⟨?_, ?_, ?_, ?_,h.globs_of hle.cell (by intro x b vs hx;simp only[aK.setObj,aT hlen]at hx;split at hx<;>first|exact hx|cases hx), ?_, ?_⟩
 ·intro x cs' hx;simp only[aK.setObj,aT hlen]at hx
  split at hx
  ·cases hx
  ·obtain⟨arr',elem',b1,b2,b3,b4⟩:=h.rows x cs' hx;have hne:E.ρ x≠E.ρ id:=λq=>by rw[q,h1]at b1;cases b1;exact h2.cells
   exact⟨arr',elem',by rw[<-b1];exact ht.other _ hne,b2,λi hl=>(b3 i hl).mono hle,b4⟩
 ·intro x n sz b hx hb;simp only[aK.setObj,aT hlen]at hx hb
  split at hx
  ·cases hx
  ·obtain⟨arr',elem',pos,b1,b2⟩:=h.bufs x n sz b hx hb;have hne:b≠E.ρ id:=by intro q;rw[q,h3]at b2;cases b2
   exact⟨arr',elem',pos,by rw[<-b1];exact ht.other _ hne,b2⟩
 ·intro x x' c c' a1 a2 e;simp only[aK.setObj,aT hlen]at a1 a2 e
  split at a1<;>split at a2
  ·cases a1
  ·cases a1
  ·cases a2
  ·exact h.injr x x' c c' a1 a2 e
 ·intro x x' n sz n' sz' b a1 a2 e e';simp only[aK.setObj,aT hlen]at a1 a2 e e'
  split at a1<;>split at a2
  ·cases a1
  ·cases a1
  ·cases a2
  ·exact h.injb x x' n sz n' sz' b a1 a2 e e'
 ·intro x k' hx;simp only[aK.setObj,aT hlen]at hx
  split at hx
  ·rename_i e;cases hx;subst e;obtain⟨o,b1,b2⟩:=hr;exact⟨⟨o,b1,b2.mono hle⟩,h3⟩
  ·rename_i e;obtain⟨⟨o,b1,b2⟩,b3⟩:=h.objs.at_ x k' hx;have hne:E.ρ x≠E.ρ id:=λq=>e (h.objs.inj x id k' k0 hx hi q);exact⟨⟨o,by rw[<-b1];exact ht.other _ hne,b2.mono hle⟩,b3⟩
 ·intro x x' c c' a1 a2 e;simp only[aK.setObj,aT hlen]at a1 a2 e;have fix:∀y d,(if y=id then some (AObj.obj k)else E.H[y]?)=some (.obj d)->∃d',E.H[y]? =some (.obj d'):=by
   intro y d q
   split at q
   ·rename_i e;subst e;exact⟨k0,hi⟩
   ·exact⟨d,q⟩
  obtain⟨d,hd⟩:=fix _ _ a1;obtain⟨d',hd'⟩:=fix _ _ a2;exact h.objs.inj x x' d d' hd hd' e
end setObj
section
variable{P:Program}
theorem FN{t e:TypeId}(h:aAm P t=some e):∃k,P.underlying t=some (.map k e)/\P.underlying k=some (.int .i64):=by
 unfold aAm at h
 split at h
 ·rename_i k e' hu
  split at h
  ·rename_i hk;cases h;exact⟨k,hu,hk⟩
  ·cases h
 ·cases h
theorem MK:∀(es:List (Int×PV)) (n:Int) (j i:Nat) (v:PV),sQ es n j=some (i,v)->j<=i/\i<j+es.length
 | [],n,j,i,v,h=>by cases h
 |e::es,n,j,i,v,h=>by
  simp only[sQ]at h
  split at h
  ·cases h;simp
  ·have:=MK es n (j+1) i v h;simp only[aM7];omega
theorem rY{V:cG}:∀(ms:List MapEntry) (es:List (Int×PV)) (n:Int) (j:Nat),mZ V ms es->
  (sQ es n j=none/\Instr.findNow (.int .i64) (.int .i64 n) ms j=some none)\/∃i v p,sQ es n j=some (i,p)/\Instr.findNow (.int .i64) (.int .i64 n) ms j=some (some (i,v))/\aQ V v p
 | [],[],n,j,_=>.inl ⟨rfl,rfl⟩
 |m::ms,e::es,n,j,h=>by
  obtain⟨h1,h2,h3⟩:=h;simp only[sQ,Instr.findNow,h1,Instr.sameNow,if_true]
  by_cases hn:e.1=n
  ·right;subst hn;refine⟨j,m.val,e.2,by rw[if_pos rfl], ?_,h2⟩;simp
  ·have e1:(n==e.1)=false:=by simpa using λq=>hn q.symm
   rw[if_neg hn,e1];exact rY ms es n (j+1) h3
 | [],_::_,n,j,h=>h.elim
 |_::_,[],n,j,h=>h.elim
theorem oM{k:TypeId}(hk:P.underlying k=some (.int .i64))(b:Bool)(n:Int)(w:World):(Instr.checkKey b 10000 k (.int .i64 n)).run P w= .ok () w:=by
 rw[show(10000:Nat)=Nat.succ 9999 from rfl,Instr.checkKey.eq_2];simp only[aM9,aP hk,aNa,aNc]
theorem fW{w:World}{b:Nat}{ms:Array MapEntry}{c:Nat}(h:w.heap[b]? =some (.map ms c)):(getObj b).run P w= .ok (.map ms c) w:=by
 simp[getObj,Sem.run,h]
theorem mK{w:World}{b:Nat}{ms:Array MapEntry}{c:Nat}{o':Obj}(h:w.heap[b]? =some (.map ms c)):(setObj b o').run P w= .ok () {w with heap:=w.heap.setIfInBounds b o'}:=by
 simp[setObj,Sem.run,h]
theorem mZ.set{V:cG}{n:Int}{v:Value}{p:PV}(hv:aQ V v p):∀ {ms:List MapEntry} {es:List (Int×PV)} (i:Nat),mZ V ms es->mZ V (ms.modify i λ(e:MapEntry)=> {e with key:=.int .i64 n,val:=v}) (es.set i (n,p))
 | [],[],i,_=>by simp[mZ]
 |m::ms,e::es,0,h=>⟨rfl,hv,h.2.2⟩
 |m::ms,e::es,i+1,h=>⟨h.1,h.2.1,mZ.set hv i h.2.2⟩
 | [],_::_,i,h=>h.elim
 |_::_,[],i,h=>h.elim
theorem mZ.app{V:cG}{n:Int}{v:Value}{p:PV}{c:Nat}(hv:aQ V v p):∀ {ms:List MapEntry} {es:List (Int×PV)},mZ V ms es->mZ V (ms++ [{key:=.int .i64 n,val:=v,born:=c}]) (es++ [(n,p)])
 | [],[],_=>⟨rfl,hv,trivial⟩
 |m::ms,e::es,h=>⟨h.1,h.2.1,mZ.app hv h.2.2⟩
 | [],_::_,h=>h.elim
 |_::_,[],h=>h.elim
theorem FJ:∀(es:List (Int×PV)) (n:Int) (j i:Nat) (v:PV),sQ es n j=some (i,v)->es[i-j]? =some (n,v)
 | [],n,j,i,v,h=>by cases h
 |e::es,n,j,i,v,h=>by
  simp only[sQ]at h
  split at h
  ·rename_i he;cases h;subst he;simp
  ·have h1:=MK es n (j+1) i v h;have:=FJ es n (j+1) i v h;rw[show i-j=(i- (j+1))+1 by omega,aM8];exact this
theorem BS:∀(es:List (Int×PV)) (n:Int) (j:Nat),sQ es n j=none->n∉es.map (·.1)
 | [],n,j,h=>zz
 |e::es,n,j,h=>by
  simp only[sQ]at h
  split at h
  ·cases h
  ·rename_i he;have:=BS es n (j+1) h;simp only[aNl,aN2,not_or];exact⟨λq=>he q.symm,this⟩
theorem NF(es:List (Int×PV))(i:Nat)(n:Int)(p q:PV)(h:es[i]? =some (n,q)):(es.set i (n,p)).map (·.1)=es.map (·.1):=by
 apply List.ext_getElem?;intro j;rw[aNg,aNg]
 by_cases e:i=j
 ·subst e;have hl:i<es.length:=(List.getElem?_eq_some_iff.1 h).1;rw[aM4 hl,h];rfl
 ·rw[aM5 e]
theorem AE(ms:List MapEntry)(i:Nat)(f:MapEntry->MapEntry)(hf:∀e,(f e).born=e.born):(ms.modify i f).map (·.born)=ms.map (·.born):=by
 apply List.ext_getElem?;intro j;rw[aNg,aNg,List.getElem?_modify];cases ms[j]? with
 |none=>rfl
 |some m=>by_cases e:i=j<;>simp[e,hf]
abbrev GE:=Nat×(Int×Int×Int)×PV
theorem tK:∀(es:List GE) (n:Int×Int×Int) (j i b:Nat) (v:PV),iH es n j=some (i,b,v)->j<=i/\i<j+es.length/\es[i-j]? =some (b,n,v)
 | [],n,j,i,b,v,h=>by cases h
 |e::es,n,j,i,b,v,h=>by
  simp only[iH]at h
  split at h
  ·rename_i he;cases h;subst he;simp
  ·obtain⟨h1,h2,h3⟩:=tK es n (j+1) i b v h;refine⟨z8,by simp only[aM7];omega, ?_⟩;rw[show i-j=(i- (j+1))+1 by omega,aM8];exact h3
theorem vM:∀(es:List GE) (n:Int×Int×Int) (j:Nat),iH es n j=none->n∉es.map (·.2.1)
 | [],n,j,h=>zz
 |e::es,n,j,h=>by
  simp only[iH]at h
  split at h
  ·cases h
  ·rename_i he;have:=vM es n (j+1) h;simp only[aNl,aN2,not_or];exact⟨he,this⟩
theorem sY{k:TypeId}{a b c:Field}(K:XZ P k a b c){V:cG}(w:World):∀(ms:List MapEntry) (es:List GE) (n:Int×Int×Int) (j:Nat),kH V ms es->
  (iH es n j=none/\(Instr.findAsking k (fU n) ms j).run P w= .ok none w)\/∃i v bo p,iH es n j=some (i,bo,p)/\(Instr.findAsking k (fU n) ms j).run P w= .ok (some (i,v)) w/\aQ V v p
 | [],[],n,j,_=>.inl ⟨rfl,rfl⟩
 |m::ms,e::es,n,j,h=>by
  obtain⟨h0,h1,h2,h3⟩:=h;simp only[iH,Instr.findAsking,h1,aM9,OV K,aNa]
  by_cases hn:n=e.2.1
  ·right;refine⟨j,m.val,e.1,e.2.2,by rw[if_pos hn], ?_,h2⟩;simp only[hn,decide_true,if_true,aNc]
  ·rw[if_neg hn];simp only[hn,decide_false,aNh,if_false];exact sY K w ms es n (j+1) h3
 | [],_::_,n,j,h=>h.elim
 |_::_,[],n,j,h=>h.elim
theorem CN(fs:Array Field)(n:Int×Int×Int)(ms:List MapEntry):Instr.findNow (.struct fs) (fU n) ms 0=none\/(ms= []/\Instr.findNow (.struct fs) (fU n) ms 0=some none):=by
 cases ms with
 |nil=>exact .inr ⟨rfl,rfl⟩
 |cons m ms=>left;rfl
theorem oV{k:TypeId}{a b c:Field}(K:XZ P k a b c){V:cG}(w:World){ms:List MapEntry}{es:List GE}(n:Int×Int×Int)(h:kH V ms es):
  (iH es n 0=none/\(Instr.findKey k (fU n) ms).run P w= .ok none w)\/∃i v bo p,iH es n 0=some (i,bo,p)/\(Instr.findKey k (fU n) ms).run P w= .ok (some (i,v)) w/\aQ V v p:=by
 unfold Instr.findKey;simp only[aM9,aP K.ut,aNa];rcases CN #[a,b,c] n ms with e| ⟨rfl,e⟩
 ·rw[e];exact sY K w ms es n 0 h
 ·rw[e];cases es with
  |nil=>exact .inl ⟨rfl,rfl⟩
  |cons _ _=>exact h.elim
theorem kH.length{V:cG}:∀ {ms:List MapEntry} {es:List GE},kH V ms es->ms.length=es.length
 | [],[],_=>rfl
 |m::ms,e::es,h=>by rw[aM7,aM7,kH.length h.2.2.2]
 | [],_::_,h=>h.elim
 |_::_,[],h=>h.elim
theorem kH.get{V:cG}:∀ {ms:List MapEntry} {es:List GE},kH V ms es->∀(i:Nat) (h:i<ms.length) (h':i<es.length),ms[i].born=es[i].1/\ms[i].key=fU es[i].2.1/\aQ V ms[i].val es[i].2.2
 |m::ms,e::es,h,0,_,_=>⟨h.1,h.2.1,h.2.2.1⟩
 |m::ms,e::es,h,i+1,h1,h2=>kH.get h.2.2.2 i _ _
 | [],[],_,i,h,_=>absurd h (Nat.not_lt_zero _)
 | [],_::_,h,_,_,_=>h.elim
 |_::_,[],h,_,_,_=>h.elim
theorem kH.set{V:cG}{n:Int×Int×Int}{v:Value}{p q:PV}{b:Nat}(hv:aQ V v p):∀ {ms:List MapEntry} {es:List GE} (i:Nat),kH V ms es->es[i]? =some (b,n,q)->kH V (ms.modify i λ(e:MapEntry)=> {e with key:=fU n,val:=v}) (es.set i (b,n,p))
 | [],[],i,_,hi=>by simp at hi
 |m::ms,e::es,0,h,hi=>by
  simp only[aNw,Option.some.injEq]at hi;subst hi;exact⟨h.1,rfl,hv,h.2.2.2⟩
 |m::ms,e::es,i+1,h,hi=>⟨h.1,h.2.1,h.2.2.1,kH.set hv i h.2.2.2 (by simpa using hi)⟩
 | [],_::_,i,h,_=>h.elim
 |_::_,[],i,h,_=>h.elim
theorem kH.app{V:cG}{n:Int×Int×Int}{v:Value}{p:PV}{c:Nat}(hv:aQ V v p):∀ {ms:List MapEntry} {es:List GE},kH V ms es->kH V (ms++ [{key:=fU n,val:=v,born:=c}]) (es++ [(c,n,p)])
 | [],[],_=>⟨rfl,rfl,hv,trivial⟩
 |m::ms,e::es,h=>⟨h.1,h.2.1,h.2.2.1,kH.app hv h.2.2.2⟩
 | [],_::_,h=>h.elim
 |_::_,[],h=>h.elim
theorem kH.erase{V:cG}:∀ {ms:List MapEntry} {es:List GE} (i:Nat),kH V ms es->kH V (ms.eraseIdx i) (es.eraseIdx i)
 | [],[],i,_=>by simp[kH]
 |m::ms,e::es,0,h=>h.2.2.2
 |m::ms,e::es,i+1,h=>⟨h.1,h.2.1,h.2.2.1,kH.erase i h.2.2.2⟩
 | [],_::_,i,h=>h.elim
 |_::_,[],i,h=>h.elim
theorem rP{α β:Type}(f:α->β)(es:List α)(i:Nat)(p q:α)(h:es[i]? =some q)(hf:f p=f q):(es.set i p).map f=es.map f:=by
 apply List.ext_getElem?;intro j;rw[aNg,aNg]
 by_cases e:i=j
 ·subst e;have hl:i<es.length:=(List.getElem?_eq_some_iff.1 h).1;rw[aM4 hl,h];simp[hf]
 ·rw[aM5 e]
theorem VW.set{es:List GE}{clk:Nat}(h:VW es clk){i b:Nat}{n:Int×Int×Int}{p q:PV}(hi:es[i]? =some (b,n,q)):VW (es.set i (b,n,p)) clk:=by
 refine⟨by rw[rP (·.1) es i (b,n,p) (b,n,q) hi rfl];exact h.born,λe he=> ?_,by rw[rP (·.2.1) es i (b,n,p) (b,n,q) hi rfl];exact h.keys⟩;rcases List.mem_or_eq_of_mem_set he with he|rfl
 ·exact h.lt e he
 ·exact h.lt (b,n,q) (List.mem_of_getElem? hi)
theorem VW.app{es:List GE}{clk:Nat}(h:VW es clk){n:Int×Int×Int}{p:PV}(hn:n∉es.map (·.2.1)):VW (es++ [(clk,n,p)]) (clk+1):=by
 refine⟨?_,λe he=> ?_, ?_⟩
 ·rw[aN3,List.pairwise_append];refine⟨h.born,zz,λx hx y hy=> ?_⟩;simp at hy;subst hy;obtain⟨e,he,rfl⟩:=aNy.1 hx;exact h.lt e he
 ·rcases aN0.1 he with he|he
  ·exact Nat.lt_succ_of_lt (h.lt e he)
  ·simp at he;subst he;exact Nat.lt_succ_self _
 ·rw[aN3,List.nodup_append];refine⟨h.keys,zz, ?_⟩;intro x hx y hy;simp at hy;subst hy;rintro rfl;exact hn hx
theorem nW{α β:Type}(f:α->β):∀(l:List α) (i:Nat),(l.eraseIdx i).map f=(l.map f).eraseIdx i
 | [],_=>zz
 |x::l,0=>rfl
 |x::l,i+1=>by simp[List.eraseIdx_cons_succ,nW f l i]
theorem VW.erase{es:List GE}{clk:Nat}(h:VW es clk)(i:Nat):VW (es.eraseIdx i) clk:=
 ⟨by rw[nW];exact h.born.sublist (List.eraseIdx_sublist _ _),λe he=>h.lt e ((List.eraseIdx_sublist _ _).subset he),by rw[nW];exact h.keys.sublist (List.eraseIdx_sublist _ _)⟩
theorem VW.nil(c:Nat):VW [] c:=⟨zz,zz,zz⟩
theorem aAb(x:Int×Int×Int):Instr.sameBits 10000 (fU x) (fU x)=true:=by
 show Instr.sameBits (9999+1) _ _=true;unfold fU;simp[Instr.sameBits]
variable{E:aK}{N:Nat}{a:Act}{T:Nat->PV}(ho:E.Ok)
include ho
omit ho in
theorem wA(id:Nat)(o':Obj):World.Turned E.w {E.w with heap:=E.w.heap.setIfInBounds (E.ρ id) o'} (E.ρ id):=
 ⟨rfl,rfl,rfl,zz,λy hy=>by simp[Ne.symm hy]⟩
omit ho in
theorem BA{V:cG}{kv:Value}{x y z:Int}(hk:aQ V kv (.agg [.int .i64 x, .int .i64 y, .int .i64 z])):kv=fU (x,y,z):=by
 cases hk with
 |agg arr _ hl hr=>
  have h0:=hr 0 zz;have h1:=hr 1 zz;have h2:=hr 2 zz;simp only[aMn,List.getElem_cons_succ]at h0 h1 h2;have g0:=h0.int_inv;have g1:=h1.int_inv;have g2:=h2.int_inv;unfold fU;have hs:arr.size=3:=hl;have:arr= #[arr.getD 0 undef,arr.getD 1 undef,arr.getD 2 undef]:=by
   apply Array.ext (by simp[hs]);intro i h1 h2;have h3:i<3:=z8
   match i,h3 with
   |0,_=>simp[Array.getD,hs]
   |1,_=>simp[Array.getD,hs]
   |2,_=>simp[Array.getD,hs]
  rw[this,g0,g1,g2]
theorem IY{t:TypeId}{xv kv:Value}{x k p:PV}{ok:Bool}(hx:aQ E.view xv x)(hk:aQ E.view kv k)(h:cD P E.H t x k ok=some p):∃val,(Instr.lookup t xv kv ok).run P E.w= .ok val E.w/\aQ E.view val p:=by
 unfold cD at h
 split at h
 ·rename_i id n
  split at h
  ·rename_i es hid;obtain⟨e,he,h⟩:=oB h;obtain⟨z,hz,h⟩:=oB h;cases h;obtain⟨kt,ht,hkt⟩:=FN he;obtain⟨f',zv,h5,h6,rfl⟩:=eU hz;obtain⟨⟨o,b1,b2⟩,_⟩:=ho.objs.at_ id _ hid;obtain⟨ms,c,rfl,hm,_,_,_⟩:=b2;have hx':xv= .map (some (E.ρ id)):=by cases hx;rfl
   have hk':kv= .int .i64 n:=by cases hk;rfl
   subst hx' hk';have hf:=rY ms es n 0 hm;unfold aI3;rcases hf with⟨f1,f2⟩| ⟨i,v,q,f1,f2,f3⟩
   ·refine⟨if ok then .tuple #[zv, .bool false]else zv, ?_, ?_⟩
    ·simp only[Instr.lookup,aM9,aP ht,aP hkt,fW b1,oM hkt,Instr.findKey,aNa,aNc,List.toList_toArray,f2,jF h5 h6]
    ·rw[f1];simp only[aNr,oD];have hz:=dP E.view zv;cases ok
     ·exact hz
     ·refine .tup _ _ rfl λi hi=> ?_
      match i,hi with
      |0,_=>exact hz
      |1,_=>exact .bool _
   ·refine⟨if ok then .tuple #[v, .bool true]else v, ?_, ?_⟩
    ·simp only[Instr.lookup,aM9,aP ht,aP hkt,fW b1,oM hkt,Instr.findKey,aNa,aNc,List.toList_toArray,f2]
    ·rw[f1];simp only[aM6,oD];cases ok
     ·exact f3
     ·refine .tup _ _ rfl λi hi=> ?_
      match i,hi with
      |0,_=>exact f3
      |1,_=>exact .bool _
  ·cases h
 ·rename_i id x y n
  split at h
  ·rename_i es clk hid;obtain⟨e,he,h⟩:=oB h;obtain⟨z,hz,h⟩:=oB h;cases h;obtain⟨kt,fa,fb,fc,ht,K⟩:=rL he;obtain⟨f',zv,h5,h6,rfl⟩:=eU hz;obtain⟨⟨o,b1,b2⟩,_⟩:=ho.objs.at_ id _ hid;obtain⟨ms,rfl,hm,_⟩:=b2;have hx':xv= .map (some (E.ρ id)):=by cases hx;rfl
   have hk':=BA hk;subst hx' hk';unfold gP;rcases oV K E.w (x,y,n) hm with⟨f1,f2⟩| ⟨i,v,bo,q,f1,f2,f3⟩
   ·refine⟨if ok then .tuple #[zv, .bool false]else zv, ?_, ?_⟩
    ·simp only[Instr.lookup,aM9,aP ht,fW b1,mF K,aNa,aNc,List.toList_toArray,f2,jF h5 h6]
    ·rw[f1];simp only[aNr,oD];have hz:=dP E.view zv;cases ok
     ·exact hz
     ·refine .tup _ _ rfl λi hi=> ?_
      match i,hi with
      |0,_=>exact hz
      |1,_=>exact .bool _
   ·refine⟨if ok then .tuple #[v, .bool true]else v, ?_, ?_⟩
    ·simp only[Instr.lookup,aM9,aP ht,fW b1,mF K,aNa,aNc,List.toList_toArray,f2]
    ·rw[f1];simp only[aM6,oD];cases ok
     ·exact f3
     ·refine .tup _ _ rfl λi hi=> ?_
      match i,hi with
      |0,_=>exact f3
      |1,_=>exact .bool _
  ·cases h
 ·cases h
theorem JK{t:TypeId}{xv kv vv:Value}{x k v:PV}{e:Nat×AObj}(hx:aQ E.view xv x)(hk:aQ E.view kv k)(hv:aQ E.view vv v)(h:dG P E.H t x k v=some e):
  ∃E',(Instr.mapUpdate t xv kv vv).run P E.w= .ok () E'.w/\E.le E'/\E'.Ok/\E'.H=E.H.set e.1 e.2:=by
 unfold dG at h
 split at h
 ·rename_i id n
  split at h
  ·rename_i es hid
   split at h
   ·rename_i hs;cases h;obtain⟨et,he⟩:=Option.isSome_iff_exists.1 hs;obtain⟨kt,ht,hkt⟩:=FN he;obtain⟨⟨o,b1,b2⟩,_⟩:=ho.objs.at_ id _ hid;obtain⟨ms,c,rfl,hm,hb,hn,hkn⟩:=b2;have hx':xv= .map (some (E.ρ id)):=by cases hx;rfl
    have hk':kv= .int .i64 n:=by cases hk;rfl
    subst hx' hk';have hlt:=ho.objs.lt hid;have hd:=hv.drop1;have turned:∀o',World.Turned E.w {E.w with heap:=E.w.heap.setIfInBounds (E.ρ id) o'} (E.ρ id):=λo'=>
     ⟨rfl,rfl,rfl,zz,λy hy=>by simp[Ne.symm hy]⟩
    have at_:∀o',({E.w with heap:=E.w.heap.setIfInBounds (E.ρ id) o'}:World).heap[E.ρ id]? =some o':=λo'=>by simp[hlt]
    rcases rY ms es n 0 hm with⟨f1,f2⟩| ⟨i,v0,q,f1,f2,f3⟩
    ·have hms:aA3 es n v.drop1=es++ [(n,v.drop1)]:=by unfold aA3;rw[f1]
     rw[hms];have hor:OR E.view (.mapo (es++ [(n,v.drop1)])) (.map (ms++ [({key:=.int .i64 n,val:=vv,born:=c}:MapEntry)]).toArray (c+1)):=by
      refine⟨_,_,rfl,mZ.app hd hm,by simp[hb], ?_, ?_⟩
      ·rw[aN3,hn,aNo,List.length_singleton,List.range_succ,hb];rfl
      ·rw[aN3,List.nodup_append];refine⟨hkn,zz, ?_⟩;intro x hx y hy;simp at hy;subst hy;rintro rfl;exact BS _ _ _ f1 hx
     refine⟨E.setObj id {E.w with heap:=E.w.heap.setIfInBounds (E.ρ id) (.map (ms++ [({key:=.int .i64 n,val:=vv,born:=c}:MapEntry)]).toArray (c+1))} (.mapo (es++ [(n,v.drop1)])), ?_,aK.setObj_le ho hid (turned _) _,ho.setObj hid (turned _) _ ⟨_,at_ _,hor⟩,rfl⟩;simp only[Instr.mapUpdate,aM9,aP ht,aP hkt,fW b1,oM hkt,Instr.findKey,aNa,aNc,List.toList_toArray,f2,mK b1,List.push_toArray];rfl
    ·have hms:aA3 es n v.drop1=es.set i (n,v.drop1):=by unfold aA3;rw[f1]
     rw[hms];have hkey:=FJ es n 0 i q f1;rw[Nat.sub_zero]at hkey;have hor:OR E.view (.mapo (es.set i (n,v.drop1))) (.map (ms.modify i λ(e:MapEntry)=> {e with key:=.int .i64 n,val:=vv}).toArray c):=by
      refine⟨_,_,rfl,mZ.set hd i hm,by rw[List.length_modify];exact hb, ?_, ?_⟩
      ·rw[AE ms i (λ(e:MapEntry)=> {e with key:=.int .i64 n,val:=vv}) (λ_=>rfl),List.length_modify];exact hn
      ·rw[NF es i n _ q hkey];exact hkn
     have hkold:((ms.toArray[i]?).map (·.key)).getD (.int .i64 n)= .int .i64 n:=by
      have:∀(ms:List MapEntry) (es:List (Int×PV)) (i:Nat),mZ E.view ms es->es[i]? =some (n,q)->(ms[i]?).map (·.key)=some (.int .i64 n):=by
       intro ms
       induction ms with
       |nil=>intro es i h h2;cases es with|nil=>cases h2|cons _ _=>exact h.elim
       |cons m ms ih=>
        intro es i h h2;cases es with
        |nil=>exact h.elim
        |cons e es=>
         cases i with
         |zero=>simp only[aNw,Option.some.injEq]at h2;simp[h.1,h2]
         |succ i=>exact ih es i h.2.2 h2
      have:=this ms es i hm hkey;rw[aNf,this];rfl
     refine⟨E.setObj id {E.w with heap:=E.w.heap.setIfInBounds (E.ρ id) (.map (ms.modify i λ(e:MapEntry)=> {e with key:=.int .i64 n,val:=vv}).toArray c)} (.mapo (es.set i (n,v.drop1))), ?_,aK.setObj_le ho hid (turned _) _,ho.setObj hid (turned _) _ ⟨_,at_ _,hor⟩,rfl⟩;have hsame:Instr.sameBits 10000 (.int .i64 n) (.int .i64 n)=true:=by
      show Instr.sameBits (9999+1) _ _=true;simp[Instr.sameBits]
     simp only[Instr.mapUpdate,aM9,aP ht,aP hkt,fW b1,oM hkt,Instr.findKey,aNa,aNc,List.toList_toArray,f2,hkold,Instr.keyThatStays,hsame,if_true,mK b1,List.modify_toArray];rfl
   ·cases h
  ·cases h
 ·rename_i id x y n
  split at h
  ·rename_i es clk hid
   split at h
   ·rename_i hs;cases h;obtain⟨et,he⟩:=Option.isSome_iff_exists.1 hs;obtain⟨kt,fa,fb,fc,ht,K⟩:=rL he;obtain⟨⟨o,b1,b2⟩,_⟩:=ho.objs.at_ id _ hid;obtain⟨ms,rfl,hm,hok⟩:=b2;have hx':xv= .map (some (E.ρ id)):=by cases hx;rfl
    have hk':=BA hk;subst hx' hk';have hlt:=ho.objs.lt hid;have hd:=hv.drop1;have turned:=wA (E:=E) id;have at_:∀o',({E.w with heap:=E.w.heap.setIfInBounds (E.ρ id) o'}:World).heap[E.ρ id]? =some o':=λo'=>by simp[hlt]
    rcases oV K E.w (x,y,n) hm with⟨f1,f2⟩| ⟨i,v0,bo,q,f1,f2,f3⟩
    ·have hms:sE es clk (x,y,n) v.drop1=es++ [(clk,(x,y,n),v.drop1)]:=by unfold sE;rw[f1]
     have hck:vS es clk (x,y,n)=clk+1:=by unfold vS gP;rw[f1];rfl
     rw[hms,hck];have hor:OR E.view (.mapg (es++ [(clk,(x,y,n),v.drop1)]) (clk+1)) (.map (ms++ [({key:=fU (x,y,n),val:=vv,born:=clk}:MapEntry)]).toArray (clk+1)):=
      ⟨_,rfl,kH.app hd hm,hok.app (vM _ _ _ f1)⟩
     refine⟨E.setObj id {E.w with heap:=E.w.heap.setIfInBounds (E.ρ id) (.map (ms++ [({key:=fU (x,y,n),val:=vv,born:=clk}:MapEntry)]).toArray (clk+1))} (.mapg (es++ [(clk,(x,y,n),v.drop1)]) (clk+1)), ?_,aK.setObj_le ho hid (turned _) _,ho.setObj hid (turned _) _ ⟨_,at_ _,hor⟩,rfl⟩;simp only[Instr.mapUpdate,aM9,aP ht,fW b1,mF K,aNa,aNc,List.toList_toArray,f2,mK b1,List.push_toArray];rfl
    ·have hms:sE es clk (x,y,n) v.drop1=es.set i (bo,(x,y,n),v.drop1):=by unfold sE;rw[f1]
     have hck:vS es clk (x,y,n)=clk:=by unfold vS gP;rw[f1];rfl
     rw[hms,hck];obtain⟨_,g2,g3⟩:=tK es _ 0 i bo q f1;rw[Nat.sub_zero]at g3;have hor:OR E.view (.mapg (es.set i (bo,(x,y,n),v.drop1)) clk) (.map (ms.modify i λ(e:MapEntry)=> {e with key:=fU (x,y,n),val:=vv}).toArray clk):=
      ⟨_,rfl,kH.set hd i hm g3,hok.set g3⟩
     have hkold:((ms.toArray[i]?).map (·.key)).getD (fU (x,y,n))=fU (x,y,n):=by
      have hi1:i<es.length:=z8
      have hi2:i<ms.length:=by rw[hm.length];exact hi1
      have:=(hm.get i hi2 hi1).2.1;rw[aNi hi1]at g3;injection g3 with g3;rw[aNf,aNi hi2];simp only[aM6,aMz,this,g3]
     refine⟨E.setObj id {E.w with heap:=E.w.heap.setIfInBounds (E.ρ id) (.map (ms.modify i λ(e:MapEntry)=> {e with key:=fU (x,y,n),val:=vv}).toArray clk)} (.mapg (es.set i (bo,(x,y,n),v.drop1)) clk), ?_,aK.setObj_le ho hid (turned _) _,ho.setObj hid (turned _) _ ⟨_,at_ _,hor⟩,rfl⟩;simp only[Instr.mapUpdate,aM9,aP ht,fW b1,mF K,aNa,aNc,List.toList_toArray,f2,hkold,Instr.keyThatStays,aAb,if_true,mK b1,List.modify_toArray];rfl
   ·cases h
  ·cases h
 ·cases h
theorem IE{t:TypeId}{x y n:Int}{kv:Value}{id:Nat}{es:List GE}{clk:Nat}{ts:Array TypeId}{ty:TypeId}(h0:ts[0]? =some t)(he:(rC P t).isSome=true)(hid:E.H[id]? =some (.obj (.mapg es clk)))(hk:aQ E.view kv (.agg [.int .i64 x, .int .i64 y, .int .i64 n])):
  ∃E',(Builtin.delete_ ts ty #[.map (some (E.ρ id)),kv]).run P E.w= .ok (.tuple #[]) E'.w/\E.le E'/\E'.Ok/\E'.H=E.H.set id (.obj (.mapg (uU es (x,y,n)) clk)):=by
 obtain⟨et,he⟩:=Option.isSome_iff_exists.1 he;obtain⟨kt,fa,fb,fc,ht,K⟩:=rL he;obtain⟨⟨o,b1,b2⟩,_⟩:=ho.objs.at_ id _ hid;obtain⟨ms,rfl,hm,hok⟩:=b2;have hk':=BA hk;subst hk';have hlt:=ho.objs.lt hid;have turned:=wA (E:=E) id;have at_:∀o',({E.w with heap:=E.w.heap.setIfInBounds (E.ρ id) o'}:World).heap[E.ρ id]? =some o':=λo'=>by simp[hlt]
 rcases oV K E.w (x,y,n) hm with⟨f1,f2⟩| ⟨i,v0,bo,q,f1,f2,f3⟩
 ·have hms:uU es (x,y,n)=es:=by unfold uU;rw[f1]
  rw[hms];refine⟨E.setObj id {E.w with heap:=E.w.heap.setIfInBounds (E.ρ id) (.map ms.toArray clk)} (.mapg es clk), ?_,aK.setObj_le ho hid (turned _) _,ho.setObj hid (turned _) _ ⟨_,at_ _,⟨ms,rfl,hm,hok⟩⟩,rfl⟩;simp only[Builtin.delete_,h0,aNf,aNw,aM8,aM9,aP ht,fW b1,mF K,aNa,aNc,List.toList_toArray,f2,mK b1];rfl
 ·have hms:uU es (x,y,n)=es.eraseIdx i:=by unfold uU;rw[f1]
  rw[hms];refine⟨E.setObj id {E.w with heap:=E.w.heap.setIfInBounds (E.ρ id) (.map (ms.eraseIdx i).toArray clk)} (.mapg (es.eraseIdx i) clk), ?_,aK.setObj_le ho hid (turned _) _,ho.setObj hid (turned _) _ ⟨_,at_ _,⟨_,rfl,hm.erase i,hok.erase i⟩⟩,rfl⟩;simp only[Builtin.delete_,h0,aNf,aNw,aM8,aM9,aP ht,fW b1,mF K,aNa,aNc,List.toList_toArray,f2,mK b1,List.eraseIdxIfInBounds_toArray];rfl
theorem JY{t k e:TypeId}{id:Nat}{es:List GE}{clk:Nat}{ts:Array TypeId}{ty:TypeId}(h0:ts[0]? =some t)(ht:P.underlying t=some (.map k e))(hid:E.H[id]? =some (.obj (.mapg es clk))):
  ∃E',(Builtin.clear_ ts ty #[.map (some (E.ρ id))]).run P E.w= .ok (.tuple #[]) E'.w/\E.le E'/\E'.Ok/\E'.H=E.H.set id (.obj (.mapg [] clk)):=by
 obtain⟨⟨o,b1,b2⟩,_⟩:=ho.objs.at_ id _ hid;obtain⟨ms,rfl,hm,hok⟩:=b2;have hlt:=ho.objs.lt hid;have turned:=wA (E:=E) id;have at_:∀o',({E.w with heap:=E.w.heap.setIfInBounds (E.ρ id) o'}:World).heap[E.ρ id]? =some o':=λo'=>by simp[hlt]
 refine⟨E.setObj id {E.w with heap:=E.w.heap.setIfInBounds (E.ρ id) (.map #[] clk)} (.mapg [] clk), ?_,aK.setObj_le ho hid (turned _) _,ho.setObj hid (turned _) _ ⟨_,at_ _,⟨[],rfl,trivial, .nil _⟩⟩,rfl⟩;simp only[Builtin.clear_,h0,aNf,aNw,aM9,aP ht,fW b1,aNa,aNc,mK b1];rfl
end
def dC(N:Nat)(o:Op):Bool:=o.operands.toList.all (aU N)
theorem vP{V:cG}{N:Nat}{a:Act}{T:Nat->PV}(ht:eR V N a T)(xs:Array Operand)(h:xs.toList.all (aU N)=true):
  RL V (xs.map a.eval) (xs.toList.map λx=>(bS T x).drop1):=by
 refine⟨zz,λi hi=> ?_⟩;simp only[aMw,aMx]at hi;simp only[aMm,Array.getElem_toList];rw[aMt,Array.getElem?_map,aMy hi];simp only[aM6,aMz];exact(aN ht _ (aNz.1 h _ zz)).drop1
theorem gT.of{P:Program}{E:aK}{s:Sem Value}{v:PV}{e:pK}(h:∃E' val,s.run P E.w= .ok val E'.w/\E.le E'/\E'.Ok/\E'.H=e.app E.H/\aQ E'.view val v):
  gT P E (do pure (.value (<-s))) v e:=by
 obtain⟨E',val,h1,h2⟩:=h;exact⟨E',val, .inl (by simp only[aM9,h1,aNa,aNc]),h2⟩
theorem gT.same{P:Program}{E:aK}(ho:E.Ok){s:Sem Value}{v:PV}(h:∃val,s.run P E.w= .ok val E.w/\aQ E.view val v):
  gT P E (do pure (.value (<-s))) v none:=by
 obtain⟨val,h1,h2⟩:=h;exact gT.of ⟨E,val,h1, .refl E,ho,rfl,h2⟩
theorem bind_some{α β:Type}{x:Option α}{f:α->Option β}{b:β}(h:x.bind f=some b):∃a,x=some a/\f a=some b:=by
 cases x with
 |none=>cases h
 |some a=>exact⟨a,rfl,h⟩
theorem eS{P:Program}{t:TypeId}(h:(cJ P t).isSome=true):∃e,P.underlying t=some (.slice e):=by
 cases hq:cJ P t with
 |none=>rw[hq]at h;cases h
 |some q=>obtain⟨e,i⟩:=q;exact⟨e,(cS hq).1⟩
section
variable{P:Program}{E:aK}{N:Nat}{a:Act}{T:Nat->PV}(ho:E.Ok)(ht:eR E.view N a T)
include ho ht
omit ho ht in
theorem dM{b:Builtin}{xs:List Operand}{ts:List TypeId}{c:Call}{ty:TypeId}(h1:c.callee= .builtin b)(h2:c.args.toList=xs)(h3:c.argTypes.toList=ts){s:Sem Value}(hs:builtin b ts.toArray ty (c.args.map fun| .const _=>true|_=>false) (xs.map a.eval).toArray=(do pure (.value (<-s)):Sem Next)):
  (do let d<-resolve a.eval c ty;invoke d.target d.args:Sem Next).run P E.w=(do pure (.value (<-s)):Sem Next).run P E.w:=by
 obtain⟨ca,ar,at_⟩:=c;simp only at h1 h2 h3 hs;subst h1;subst h2;subst h3;simp only[resolve,aM9,aNc,aNa,invoke];have e1:at_.toList.toArray=at_:=zz
 have e2:(List.map a.eval ar.toList).toArray=ar.map a.eval:=by rw[<-Array.toList_map]
 rw[e1,e2]at hs;exact(congrArg (λq:Sem Next=>q.run P E.w) hs).trans (by simp only[aM9,aNc])
omit ho ht in
theorem gT.congr{s s':Sem Next}(h:s.run P E.w=s'.run P E.w){v:PV}{e:pK}(d:gT P E s' v e):gT P E s v e:=by
 obtain⟨E',val,h1,h2⟩:=d;exact⟨E',val,by rw[h];exact h1,h2⟩
theorem EG{c:Call}{b:Builtin}(hc:c.callee= .builtin b)(hall:∀x∈c.args.toList,aU N x=true){ty:TypeId}{fresh:Nat}{v:PV}{eff:pK}(hv:dA P fresh T E.H b c.args.toList c.argTypes.toList=some (v,eff))
  (hfr:∀ob,eff=some (fresh,ob)->E.H[fresh]? =some .unborn):gT P E (do let d<-resolve a.eval c ty;invoke d.target d.args) v eff:=by
 generalize hxs:c.args.toList=xs at hv hall;generalize hts:c.argTypes.toList=ts at hv;unfold dA at hv
 split at hv
 ·
  rename_i x t;have hr:=aN ht x (hall _ zz);refine gT.congr (dM hc hxs hts (s:=Builtin.len_ #[t] ty #[a.eval x]) rfl) ?_
  split at hv
  ·rename_i es tl hx;rw[hx]at hr
   split at hv
   ·rename_i hs;obtain⟨e,hu⟩:=eS hs;cases hv;obtain⟨ad,cap,hval⟩:∃ad cap,a.eval x= .slice ad es.length cap:=by
     generalize a.eval x=y at hr;cases hr with
     |nils _ _=>exact⟨none,0,rfl⟩
     |slice ad len cap sz _ _ vs hlen hcap hmax hsz hc hr ht=>subst hlen;exact⟨some ad,cap,rfl⟩
    refine gT.same ho ⟨.int .i64 es.length, ?_, .int _ _⟩;simp only[aM9,aNc,aNa,Builtin.len_,aNf,aNw,aP hu,hval,goInt]
   ·cases hv
  ·rename_i id off n c hx;rw[hx]at hr
   split at hv
   ·rename_i hs;obtain⟨e,hu⟩:=eS hs;cases hv;obtain⟨ad,cap,hval⟩:∃ad cap,a.eval x= .slice ad n cap:=by
     generalize a.eval x=y at hr;cases hr;exact⟨_,_,rfl⟩
    refine gT.same ho ⟨.int .i64 n, ?_, .int _ _⟩;simp only[aM9,aNc,aNa,Builtin.len_,aNf,aNw,aP hu,hval,goInt]
   ·cases hv
  ·rename_i s hx;rw[hx]at hr
   split at hv
   ·rename_i hs;unfold LW at hs
    split at hs
    ·rename_i hu;cases hv;obtain⟨s',hval,rfl⟩:∃s',a.eval x= .string s'/\s=s'.data.toList:=by
      generalize a.eval x=y at hr;cases hr;exact⟨_,rfl,rfl⟩
     refine gT.same ho ⟨.int .i64 s'.data.toList.length, ?_, .int _ _⟩;simp only[aM9,aNc,aNa,Builtin.len_,aNf,aNw,aP hu,hval,goInt,aMx];rfl
    ·cases hs
   ·cases hv
  ·cases hv
 ·
  rename_i x y;refine gT.congr (dM hc hxs hts (s:=Builtin.min_ _ ty #[a.eval x,a.eval y]) rfl) ?_
  split at hv
  ·rename_i m n hx hy;cases hv;have hr:=aN ht x (hall _ zz);have hr':=aN ht y (hall _ zz);rw[hx]at hr;rw[hy]at hr';refine gT.same ho ⟨.int .i64 (min m n), ?_, .int _ _⟩;simp only[aNc,Builtin.min_,hr.int_inv,hr'.int_inv,List.foldlM_cons,List.foldlM_nil,Builtin.min2,pure_bind];congr 2;rw[Int.min_def];split<;>split<;>omega
  ·cases hv
 ·
  rename_i x y;refine gT.congr (dM hc hxs hts (s:=Builtin.max_ _ ty #[a.eval x,a.eval y]) rfl) ?_
  split at hv
  ·rename_i m n hx hy;cases hv;have hr:=aN ht x (hall _ zz);have hr':=aN ht y (hall _ zz);rw[hx]at hr;rw[hy]at hr';refine gT.same ho ⟨.int .i64 (max m n), ?_, .int _ _⟩;simp only[aNc,Builtin.max_,hr.int_inv,hr'.int_inv,List.foldlM_cons,List.foldlM_nil,Builtin.max2,pure_bind];congr 2;rw[Int.max_def];split<;>split<;>omega
  ·cases hv
 ·
  rename_i x y t u;obtain⟨ei,hf,hv⟩:=bind_some hv;obtain⟨z,hz,hv⟩:=bind_some hv;refine gT.congr (dM hc hxs hts (s:=Builtin.append_ #[t,u] ty #[a.eval x,a.eval y]) rfl) ?_
  split at hv
  ·rename_i hcc;have hr:=aN ht x (hall _ zz);have hr':=aN ht y (hall _ zz);exact gT.of (JR (ty:=ty) ho hr hr' hf hz hcc.1 hcc.2 hv (λob h _ _=>hfr ob h))
  ·cases hv
 ·cases hv
theorem rI{o:Oper}(hok:dC N o.op=true){mt:Bool}{fresh:Nat}{v:PV}{eff:pK}(hv:fN P mt fresh T E.H o.op=some (v,eff))(hfr:∀ob,eff=some (fresh,ob)->E.H[fresh]? =some .unborn):
  gT P E (execOp a.eval o) v eff:=by
 have hall:∀x∈o.op.operands.toList,aU N x=true:=λx hx=>aNz.1 hok x hx;unfold execOp;generalize hop:o.op=op at hv hall;unfold fN at hv
 split at hv
 ·
  cases hv;exact gT.val ho rfl (aN ht _ (hall _ (by simp[Op.operands])))
 ·cases hv;exact gT.val ho rfl (aN ht _ (hall _ (by simp[Op.operands])))
 ·
  rename_i c x y
  split at hv
  ·rename_i b hb;cases hv;have hc:=aN ht c (hall _ (by simp[Op.operands]));rw[hb]at hc;have hc':=hc.bool_inv;refine gT.val ho (val:=if b then a.eval x else a.eval y) ?_ ?_
   ·simp only[aM9,hc',asBool,aNc,aNa]
   ·cases b
    ·exact aN ht y (hall _ (by simp[Op.operands]))
    ·exact aN ht x (hall _ (by simp[Op.operands]))
  ·cases hv
 ·
  rename_i e;obtain⟨z,hz,hv⟩:=bind_some hv
  split at hv
  ·cases hv
  ·rename_i hj;cases hv;exact gT.of (KD ho (hfr _ rfl) hz (by simpa using hj))
 ·
  rename_i e x
  split at hv
  ·cases hv
  ·rename_i hj;cases hv;exact gT.of (TB ho ht (hfr _ rfl) (hall _ (by simp[Op.operands])) (by simpa using hj))
 ·
  rename_i t ps;obtain⟨fl,hf,hv⟩:=bind_some hv;obtain⟨z,hz,hv⟩:=bind_some hv
  split at hv
  ·cases hv
  ·rename_i hj;obtain⟨cs,hb,hv⟩:=bind_some hv;cases hv;exact gT.same ho (NC ht (aNz.2 λx hx=>hall _ (by simp only[Op.operands];exact aNy.2 ⟨x,hx,rfl⟩)) hf hz (by simpa using hj) hb)
 ·
  rename_i t n ps;obtain⟨ei,hf,hv⟩:=bind_some hv;obtain⟨z,hz,hv⟩:=bind_some hv
  split at hv
  ·rename_i hc;obtain⟨es,hb,hv⟩:=bind_some hv;cases hv;exact gT.of (yD ht ho (aNz.2 λx hx=>hall _ (by simp only[Op.operands];exact aNy.2 ⟨x,hx,rfl⟩)) hf hz hc.1 hc.2.1 hc.2.2 hb)
  ·cases hv
 ·
  rename_i t x;obtain⟨i,hi,hv⟩:=bind_some hv;obtain⟨p,hp,hv⟩:=bind_some hv;cases hv;exact gT.same ho (AZ ho ht (hall _ (by simp[Op.operands])) hi hp)
 ·
  rename_i t x y;obtain⟨i,hi,hv⟩:=bind_some hv;obtain⟨e,he,hv⟩:=bind_some hv;cases hv;obtain⟨E',h1,h2,h3,h4⟩:=KN ho ht (hall x (by simp[Op.operands])) (hall y (by simp[Op.operands])) hi he;exact⟨E',undef, .inr ⟨by simp only[aM9,h1,aNa,aNc],rfl⟩,h2,h3,h4, .junk _⟩
 ·
  rename_i x
  split at hv
  ·rename_i id off hx;cases hv;have hr:=aN ht x (hall _ (by simp[Op.operands]));rw[hx]at hr;have hi:=hr.optr_inv;refine gT.val ho (val:=a.eval x) ?_ hr;simp only[hi.1];rfl
  ·rename_i cs hx;cases hv;have hr:=aN ht x (hall _ (by simp[Op.operands]));rw[hx]at hr;obtain⟨ad,vs,e,_,_⟩:=hr.iptr_inv;refine gT.val ho (val:=a.eval x) ?_ hr;simp only[e];rfl
  ·cases hv
 ·
  rename_i op xt x y yt;obtain⟨p,hp,hv⟩:=bind_some hv;cases hv;exact gT.same ho (UX (aN ht _ (hall x (by simp[Op.operands]))) (aN ht _ (hall y (by simp[Op.operands]))) hp)
 ·
  obtain⟨p,hp,hv⟩:=bind_some hv;cases hv;exact gT.same ho (XJ (aN ht _ (hall _ (by simp[Op.operands]))) hp)
 ·
  rename_i s d x
  split at hv
  ·rename_i k0 n k hx hk
   split at hv
   ·rename_i hs;cases hv;have hr:=aN ht x (hall _ (by simp[Op.operands]));rw[hx]at hr;refine gT.same ho (DX hr hk ?_);unfold AG at hs;cases hq:P.underlying s with
    |none=>rw[hq]at hs;cases hs
    |some _=>rfl
   ·cases hv
  ·cases hv
 ·
  rename_i f first caps
  cases hv;have h1:=vP ht first (aNz.2 λx hx=>hall _ (by simp only[Op.operands];simp;left;simpa using hx))
  have h2:=vP ht caps (aNz.2 λx hx=>hall _ (by simp only[Op.operands];simp;right;simpa using hx));exact gT.val ho rfl (.fn _ _ _ _ _ h1.1 h2.1 h1.2 h2.2)
 ·
  rename_i t l c;obtain⟨ei,hf,hv⟩:=bind_some hv;obtain⟨z,hz,hv⟩:=bind_some hv;exact gT.of (AD ho (aN ht _ (hall l (by simp[Op.operands]))) (aN ht _ (hall c (by simp[Op.operands]))) hf hz hv hfr)
 ·
  rename_i t x lo hi mx;obtain⟨p,hp,hv⟩:=bind_some hv;cases hv;refine gT.same ho (LO ht (hall x (by simp[Op.operands])) ?_ ?_ ?_ hp)
  ·cases lo with
   |none=>rfl
   |some y=>exact hall y (by simp[Op.operands])
  ·cases hi with
   |none=>rfl
   |some y=>exact hall y (by simp[Op.operands])
  ·cases mx with
   |none=>rfl
   |some y=>exact hall y (by simp[Op.operands])
 ·
  obtain⟨fl,hf,hv⟩:=bind_some hv;obtain⟨p,hp,hv⟩:=bind_some hv;cases hv;exact gT.same ho (zS ht (hall _ (by simp[Op.operands])) hf hp)
 ·obtain⟨fl,hf,hv⟩:=bind_some hv;obtain⟨p,hp,hv⟩:=bind_some hv;cases hv;exact gT.same ho (LH ht (hall _ (by simp[Op.operands])) hf hp)
 ·
  rename_i t x i;obtain⟨ei,hf,hv⟩:=bind_some hv;obtain⟨p,hp,hv⟩:=bind_some hv;cases hv;exact gT.same ho (AA ht (hall x (by simp[Op.operands])) (hall i (by simp[Op.operands])) hf hp)
 ·
  rename_i t x i
  split at hv
  ·rename_i s hs
   split at hv
   ·rename_i hst;obtain⟨k,hk,hv⟩:=bind_some hv;obtain⟨b,hb,hv⟩:=bind_some hv;cases hv;exact gT.same ho ⟨_,JZ ht (hall x (by simp[Op.operands])) (hall i (by simp[Op.operands])) hs hst hk hb, .int _ _⟩
   ·cases hv
  ·cases hv
 ·
  rename_i t i
  split at hv
  ·rename_i vs hx;obtain⟨p,hp,hv⟩:=bind_some hv;cases hv;exact gT.same ho (EP ht (hall _ (by simp[Op.operands])) hx hp)
  ·cases hv
 ·
  rename_i t x k ok;obtain⟨p,hp,hv⟩:=bind_some hv;cases hv;exact gT.same ho (IY ho (aN ht _ (hall x (by simp[Op.operands]))) (aN ht _ (hall k (by simp[Op.operands]))) hp)
 ·
  rename_i t x k y;obtain⟨e,he,hv⟩:=bind_some hv;cases hv;obtain⟨E',h1,h2,h3,h4⟩:=JK ho (aN ht _ (hall x (by simp[Op.operands]))) (aN ht _ (hall k (by simp[Op.operands]))) (aN ht _ (hall y (by simp[Op.operands]))) he;exact⟨E',undef, .inr ⟨by simp only[aM9,h1,aNa,aNc],rfl⟩,h2,h3,h4, .junk _⟩
 ·
  rename_i t
  split at hv
  ·cases hv;have hun:=hfr _ rfl;have hor:OR E.view (.mapg [] 0) (.map #[] 0):=⟨[],rfl,trivial, .nil 0⟩;refine gT.of ⟨E.newObj fresh (.map #[] 0) (.mapg [] 0), .map (some E.w.heap.size), ?_,aK.newObj_le ho hun _ _,ho.newObj hun _ _ hor,rfl, ?_⟩
   ·simp only[aNr,Instr.makeMap,aM9,run_newObj,aNa,aNc];rfl
   ·have:=aQ.mapp (V:=(E.newObj fresh (.map #[] 0) (.mapg [] 0)).view) fresh ⟨.obj (.mapg [] 0),by simp only[aK.newObj];exact aM4 (lG hun),zz⟩;have hρ:(E.newObj fresh (.map #[] 0) (.mapg [] 0)).view.rho fresh=E.w.heap.size:=by simp[aK.view,aK.newObj]
    rw[hρ]at this;exact this
  obtain⟨e,he,hv⟩:=bind_some hv;cases hv;have hun:=hfr _ rfl;have hor:OR E.view (.mapo []) (.map #[] 0):=⟨[],0,rfl,trivial,zz,zz,zz⟩;refine gT.of ⟨E.newObj fresh (.map #[] 0) (.mapo []), .map (some E.w.heap.size), ?_,aK.newObj_le ho hun _ _,ho.newObj hun _ _ hor,rfl, ?_⟩
  ·simp only[aNr,Instr.makeMap,aM9,run_newObj,aNa,aNc];rfl
  ·have:=aQ.mapp (V:=(E.newObj fresh (.map #[] 0) (.mapo [])).view) fresh ⟨.obj (.mapo []),by simp only[aK.newObj];exact aM4 (lG hun),zz⟩;have hρ:(E.newObj fresh (.map #[] 0) (.mapo [])).view.rho fresh=E.w.heap.size:=by simp[aK.view,aK.newObj]
   rw[hρ]at this;exact this
 ·
  rename_i c
  split at hv
  ·rename_i b hb;exact EG ho ht hb (λx hx=>hall _ (by simp only[Op.operands,Call.operands,hb];simpa using hx)) hv hfr
  ·cases hv
 ·cases hv
end
abbrev aJ:=Nat->PV
abbrev aH:=List AObj
abbrev cT:=Exit->aJ->aH->Prop
structure aK.leN(n:Nat)(E E':aK):Prop where
 os:E'.w.os=E.w.os
 tape:E'.w.tape=E.w.tape
 output:E'.w.output=E.w.output
 size:E.w.heap.size<=E'.w.heap.size
 other:∀b,b<E.w.heap.size->¬E.owns b->E'.κ b=E.κ b/\E'.w.heap[b]? =E.w.heap[b]?
 cell:∀a v,E.view.cell a=some v->E'.view.cell a=some v
 bornv:∀id,id<n->E.view.born id->E'.view.born id/\E'.view.rho id=E.view.rho id/\
  ∀t',E'.view.tok id=some t'->∃t,E.view.tok id=some t/\(t'=t\/t.n<t'.n)
 born:∀b,b<E.w.heap.size->E'.owns b->E.owns b
theorem aK.le.leN{E E':aK}(h:E.le E')(n:Nat):E.leN n E':=
 ⟨h.os,h.tape,h.output,h.size,h.other,h.view.cell,λid _ hb=>⟨h.view.born id hb,h.view.rho id hb,λt' ht=>h.view.tok id t' hb ht⟩,h.born⟩
theorem aK.leN.refl(n:Nat)(E:aK):E.leN n E:=(aK.le.refl E).leN n
theorem aK.leN.trans{n:Nat}{A B C:aK}(h:A.leN n B)(k:B.leN n C):A.leN n C:=
 ⟨k.os.trans h.os,k.tape.trans h.tape,k.output.trans h.output,aMr h.size k.size,
  λb hb h1=>by
  obtain⟨e1,e2⟩:=h.other b hb h1;obtain⟨e3,e4⟩:=k.other b (aMs hb h.size) (λx=>h1 (h.born b hb x));exact⟨e3.trans e1,e4.trans e2⟩,
  λa v x=>k.cell a v (h.cell a v x),
  λid hid hb=>by
  obtain⟨b1,b2,b3⟩:=h.bornv id hid hb;obtain⟨c1,c2,c3⟩:=k.bornv id hid b1;refine⟨c1,c2.trans b2,λt' ht=> ?_⟩;obtain⟨t,h1,h2⟩:=c3 t' ht;obtain⟨t0,h3,h4⟩:=b3 t h1;refine⟨t0,h3, ?_⟩;rcases h2 with rfl|h2
  ·exact h4
  ·rcases h4 with rfl|h4
   ·exact .inr h2
   ·exact .inr z8,
  λb hb x=>h.born b hb (k.born b (aMs hb h.size) x)⟩
theorem aK.leN.le{E E':aK}(h:E.leN E.H.length E'):E.le E':=by
 have hl:∀id,E.view.born id->id<E.H.length:=by
  rintro id ⟨o,h1,_⟩;exact lG h1
 exact⟨h.os,h.tape,h.output,h.size,h.other,⟨h.cell,λid hb=>(h.bornv id (hl id hb) hb).1,λid hb=>(h.bornv id (hl id hb) hb).2.1,λid t' hb ht=>(h.bornv id (hl id hb) hb).2.2 t' ht⟩,h.born⟩
def qG(N nb:Nat)(E:aK)(Q:cT):Exit->Act->World->Prop:=λe a' w'=>∃E' T',E'.w=w'/\E.leN nb E'/\E'.Ok/\eR E'.view N a' T'/\Q e T' E'.H
def fO(P:Program)(N nb:Nat)(c:Code)(Q:cT)(T:aJ)(H:aH):Prop:=
 ∀(E:aK) (a:Act),E.Ok->E.H=H->eR E.view N a T->c.wp P (qG N nb E Q) a E.w
theorem fH{N nb:Nat}{E E1:aK}(h:E.leN nb E1){Q Q':cT}(hq:∀e T H,Q e T H->Q' e T H){e:Exit}{a:Act}{w:World}(hl:qG N nb E1 Q e a w):qG N nb E Q' e a w:=by
 obtain⟨E',T',h1,h2,h3,h4,h5⟩:=hl;exact⟨E',T',h1,h.trans h2,h3,h4,hq _ _ _ h5⟩
section rules
variable{P:Program}{N nb:Nat}{Q:cT}{T:aJ}{H:aH}
theorem fO.mono{c:Code}{Q':cT}(h:fO P N nb c Q T H)(hq:∀e T H,Q e T H->Q' e T H):fO P N nb c Q' T H:=
 λE a ho hH ht=>wp_mono (h E a ho hH ht) λe a w hl=>fH (.refl nb E) hq hl
theorem wK(h:Q .normal T H):fO P N nb .skip Q T H:=λE a ho hH ht=>wp_skip ⟨E,T,rfl, .refl nb E,ho,ht,hH▸h⟩
theorem dO{id:Nat}(h:Q (.exit id) T H):fO P N nb (.exit id) Q T H:=λE a ho hH ht=>wp_exit ⟨E,T,rfl, .refl nb E,ho,ht,hH▸h⟩
theorem wT(h:Q .ret T H):fO P N nb .ret Q T H:=λE a ho hH ht=>wp_ret ⟨E,T,rfl, .refl nb E,ho,ht,hH▸h⟩
def bQ(next:aJ->aH->Prop)(Q:cT):cT
 | .normal,T,H=>next T H
 |e,T,H=>Q e T H
theorem wS{x y:Code}(h:fO P N nb x (bQ (fO P N nb y Q) Q) T H):fO P N nb (.seq x y) Q T H:=by
 intro E a ho hH ht;refine wp_seq (wp_mono (h E a ho hH ht) ?_);intro e a' w' hl;obtain⟨E',T',rfl,h2,h3,h4,h5⟩:=hl;cases e with
 |normal=>
  exact wp_mono (h5 E' a' h3 rfl h4) λe a w hl=>fH h2 (λ_ _ _ q=>q) hl
 |_=>exact⟨E',T',rfl,h2,h3,h4,h5⟩
theorem wC{c:Operand}{x y:Code}{b:Bool}(hc:aU N c=true)(hb:bS T c= .bool b)(h1:b=true->fO P N nb x Q T H)(h2:b=false->fO P N nb y Q T H):fO P N nb (.cond c x y) Q T H:=by
 intro E a ho hH ht;have hr:=aN ht c hc;rw[hb]at hr;exact wp_cond_split hr.bool_inv (λe=>h1 e E a ho hH ht) (λe=>h2 e E a ho hH ht)
theorem nX{c:Operand}{x y:Code}(hc:aU N c=true)(hb:bS T c= .bool true)(h1:fO P N nb x Q T H):fO P N nb (.cond c x y) Q T H:=
 wC hc hb (λ_=>h1) (λh=>by cases h)
theorem wF{c:Operand}{x y:Code}(hc:aU N c=true)(hb:bS T c= .bool false)(h1:fO P N nb y Q T H):fO P N nb (.cond c x y) Q T H:=
 wC hc hb (λh=>by cases h) (λ_=>h1)
def cB(id:Nat)(Q:cT):cT
 | .exit id',T,H=>if id'=id then Q .normal T H else Q (.exit id') T H
 |e,T,H=>Q e T H
theorem bJ{id:Nat}{c:Code}(h:fO P N nb c (cB id Q) T H):fO P N nb (.block id c) Q T H:=by
 intro E a ho hH ht;refine wp_block (wp_mono (h E a ho hH ht) ?_);intro e a' w' hl;obtain⟨E',T',rfl,h2,h3,h4,h5⟩:=hl;cases e with
 |exit id'=>
  simp only[cB]at h5;simp only[Exit.inBlock]
  split at h5
  ·rename_i e;rw[if_pos e];exact⟨E',T',rfl,h2,h3,h4,h5⟩
  ·rename_i e;rw[if_neg e];exact⟨E',T',rfl,h2,h3,h4,h5⟩
 |_=>exact⟨E',T',rfl,h2,h3,h4,h5⟩
theorem oZ{p:Nat->Prop}(h:∃n,p n):∃n,p n/\∀m,p m->n<=m:=by
 obtain⟨n,hn⟩:=h
 induction n using Nat.strongRecOn with
 |_ n ih=>
  by_cases q:∃m,m<n/\p m
  ·obtain⟨m,hm,hp⟩:=q;exact ih m hm hp
  ·exact⟨n,hn,λm hm=>Nat.le_of_not_lt λhlt=>q ⟨m,hlt,hm⟩⟩
open Classical in
noncomputable def zQ(p:Nat->Prop):Nat:=if h:∃n,p n then Classical.choose (oZ h)else 0
theorem rV{p:Nat->Prop}(h:∃n,p n):p (zQ p):=by unfold zQ;rw[dif_pos h];exact(Classical.choose_spec (oZ h)).1
theorem xE{p:Nat->Prop}{n:Nat}(h:p n):zQ p<=n:=by unfold zQ;rw[dif_pos ⟨n,h⟩];exact(Classical.choose_spec (oZ ⟨n,h⟩)).2 n h
inductive bF(n:Nat):PV->Prop
 |bool (b):bF n (.bool b)
 |int (k i):bF n (.int k i)
 |str (s):bF n (.str s)
 |nilp:bF n .nilp
 |optr (id off) (h:id<n):bF n (.optr id off)
 |iptr (cs) (h:∀c∈cs,bF n c):bF n (.iptr cs)
 |slice (es tl) (h:∀e∈es,∀c∈e.cells,bF n c) (ht:∀id,tl= .tok id->id<n):bF n (.slice es tl)
 |msl (id off k c) (h:id<n):bF n (.msl id off k c)
 |fn (f pf pc) (hf:∀c∈pf,bF n c) (hc:∀c∈pc,bF n c):bF n (.fn f pf pc)
 |nilfn:bF n .nilfn
 |agg (cs) (h:∀c∈cs,bF n c):bF n (.agg cs)
 |tup (cs) (h:∀c∈cs,bF n c):bF n (.tup cs)
 |mapp (id) (h:id<n):bF n (.mapp id)
 |nilmap:bF n .nilmap
 |ifc (o):bF n (.ifc o)
 |junk:bF n .junk
theorem aQ.bel{V:cG}{v:Value}{p:PV}(h:aQ V v p){n:Nat}(hn:∀id,V.born id->id<n):bF n p:=by
 induction h with
 |bool b=>exact .bool b
 |int k i=>exact .int k i
 |str s=>exact .str _
 |nilp=>exact .nilp
 |optr id off hb=>exact .optr _ _ (hn _ hb)
 |iptr a cs vs hc hr ih=>exact .iptr _ λc hc=>by obtain⟨i,hi,rfl⟩:=List.getElem_of_mem hc;exact ih i hi
 |nils tl ht=>exact .slice _ _ zz λid e=>by subst e;exact hn _ ht.1
 |slice a len cap sz es tl vs hlen hcap hmax hsz hc hr ht ih=>
  refine .slice _ _ (λe he c hc=> ?_) λid e=>by subst e;exact hn _ ht.1
  obtain⟨i,hi,rfl⟩:=List.getElem_of_mem he;obtain⟨j,hj,rfl⟩:=List.getElem_of_mem hc;exact ih i j hi hj
 |msl id off k c hb hm=>exact .msl _ _ _ _ (hn _ hb)
 |fn f first caps pf pc hf hc _ _ ih1 ih2=>
  exact .fn _ _ _ (λc hc=>by obtain⟨i,hi,rfl⟩:=List.getElem_of_mem hc;exact ih1 i hi) (λc hc=>by obtain⟨i,hi,rfl⟩:=List.getElem_of_mem hc;exact ih2 i hi)
 |nilfn=>exact .nilfn
 |agg arr cs hl _ ih=>exact .agg _ λc hc=>by obtain⟨i,hi,rfl⟩:=List.getElem_of_mem hc;exact ih i hi
 |tup arr cs hl _ ih=>exact .tup _ λc hc=>by obtain⟨i,hi,rfl⟩:=List.getElem_of_mem hc;exact ih i hi
 |mapp id hb=>exact .mapp _ (hn _ hb)
 |nilmap=>exact .nilmap
 |nili=>exact .ifc _
 |ifc t v=>exact .ifc _
 |junk v=>exact .junk
theorem aQ.cut{V V':cG}{n:Nat}(hc:∀a v,V.cell a=some v->V'.cell a=some v)(hb:∀id,id<n->V.born id->V'.born id/\V'.rho id=V.rho id/\∀t,V'.tok id=some t->V.tok id=some t)
  {v:Value} {p:PV} (h:aQ V v p) (hp:bF n p):aQ V' v p:=by
 have htl:∀ {tl a len cap},(∀id,tl= .tok id->id<n)->nQ V tl a len cap->nQ V' tl a len cap:=by
  intro tl a len cap h1 h2;cases tl with
  |none=>trivial
  |full=>exact h2
  |tok id=>
   obtain⟨h3,h4⟩:=h2;obtain⟨b1,b2,b3⟩:=hb id (h1 id rfl) h3;exact⟨b1,λt ht=>h4 t (b3 t ht)⟩
 induction h with
 |bool b=>exact .bool b
 |int k i=>exact .int k i
 |str s=>exact .str _
 |nilp=>exact .nilp
 |optr id off hbn=>
  cases hp with
  |optr _ _ hlt=>obtain⟨b1,b2,_⟩:=hb id hlt hbn;rw[<-b2];exact .optr _ _ b1
 |iptr a cs vs hcl hr ih=>
  cases hp with
  |iptr _ hq=>exact .iptr _ _ vs (λj hj=>hc _ _ (hcl j hj)) λj hj=>ih j hj (hq _ (aNq hj))
 |nils tl ht=>
  cases hp with
  |slice _ _ hq hq2=>exact .nils _ (htl hq2 ht)
 |slice a len cap sz es tl vs hlen hcap hmax hsz hcl hr ht ih=>
  cases hp with
  |slice _ _ hq hq2=>exact .slice _ _ _ _ _ _ vs hlen hcap hmax hsz (λi j hi hj=>hc _ _ (hcl i j hi hj)) (λi j hi hj=>ih i j hi hj (hq _ (aNq hi) _ (aNq hj))) (htl hq2 ht)
 |msl id off k c hbn hm=>
  cases hp with
  |msl _ _ _ _ hlt=>obtain⟨b1,b2,_⟩:=hb id hlt hbn;rw[<-b2];exact .msl _ _ _ _ b1 hm
 |fn f first caps pf pc hf hcp _ _ ih1 ih2=>
  cases hp with
  |fn _ _ _ q1 q2=>exact .fn _ _ _ _ _ hf hcp (λi h=>ih1 i h (q1 _ (aNq h))) (λi h=>ih2 i h (q2 _ (aNq h)))
 |nilfn=>exact .nilfn
 |agg arr cs hl _ ih=>
  cases hp with
  |agg _ q=>exact .agg _ _ hl λi h=>ih i h (q _ (aNq h))
 |tup arr cs hl _ ih=>
  cases hp with
  |tup _ q=>exact .tup _ _ hl λi h=>ih i h (q _ (aNq h))
 |mapp id hbn=>
  cases hp with
  |mapp _ hlt=>obtain⟨b1,b2,_⟩:=hb id hlt hbn;rw[<-b2];exact .mapp _ b1
 |nilmap=>exact .nilmap
 |nili=>exact .nili
 |ifc t v=>exact .ifc t v
 |junk v=>exact .junk v
theorem RE{H:aH}{id:Nat}(h:pG H id):id<H.length:=by
 obtain⟨o,h1,_⟩:=h;exact lG h1
theorem bF.mono{n m:Nat}(hnm:n<=m){p:PV}(h:bF n p):bF m p:=by
 induction h with
 |bool b=>exact .bool b
 |int k i=>exact .int k i
 |str s=>exact .str _
 |nilp=>exact .nilp
 |optr id off h=>exact .optr _ _ z8
 |iptr cs _ ih=>exact .iptr _ ih
 |slice es tl _ ht ih=>exact .slice _ _ ih λid e=>by have:=ht id e;omega
 |msl id off k c h=>exact .msl _ _ _ _ z8
 |fn f pf pc _ _ ih1 ih2=>exact .fn _ _ _ ih1 ih2
 |nilfn=>exact .nilfn
 |agg cs _ ih=>exact .agg _ ih
 |tup cs _ ih=>exact .tup _ ih
 |mapp id h=>exact .mapp _ z8
 |nilmap=>exact .nilmap
 |ifc o=>exact .ifc o
 |junk=>exact .junk
def EK(n:Nat):AObj->Prop
 | .row cs=>∀c∈cs,bF n c
 | .obj (.mapo es)=>∀e∈es,bF n e.2
 | .obj (.miter im _ _)=>im<n
 | .obj (.mapg es _)=>∀e∈es,bF n e.2.2
 | .obj (.mitg im _ _)=>im<n
 |_=>True
theorem EK.mono{n m:Nat}{o:AObj}(h:EK m o)(hm:m<=n):EK n o:=by
 cases o with
 |row cs=>exact λc hc=>(h c hc).mono hm
 |obj k=>cases k with
  |iter s p=>trivial
  |mapo es=>exact λe he=>(h e he).mono hm
  |miter im k seen=>exact aMs h hm
  |mapg es c=>exact λe he=>(h e he).mono hm
  |mitg im k seen=>exact aMs h hm
 |_=>trivial
theorem mZ.bel{V:cG}{n:Nat}(hn:∀id,V.born id->id<n):∀ {ms:List MapEntry} {es:List (Int×PV)},mZ V ms es->∀e∈es,bF n e.2
 | [],[],_,e,he=>by cases he
 |m::ms,x::es,h,e,he=>by
  rcases aN2.1 he with rfl|he
  ·exact h.2.1.bel hn
  ·exact mZ.bel hn h.2.2 e he
 | [],_::_,h,_,_=>h.elim
 |_::_,[],h,_,_=>h.elim
theorem kH.bel{V:cG}{n:Nat}(hn:∀id,V.born id->id<n):∀ {ms:List MapEntry} {es:List (Nat×(Int×Int×Int)×PV)},kH V ms es->∀e∈es,bF n e.2.2
 | [],[],_,e,he=>by cases he
 |m::ms,x::es,h,e,he=>by
  rcases aN2.1 he with rfl|he
  ·exact h.2.2.1.bel hn
  ·exact kH.bel hn h.2.2.2 e he
 | [],_::_,h,_,_=>h.elim
 |_::_,[],h,_,_=>h.elim
theorem OR.bel{V:cG}{k:rA}{o:Obj}(h:OR V k o){n:Nat}(hn:∀id,V.born id->id<n):EK n (.obj k):=by
 cases k with
 |iter s pos=>trivial
 |mapo es=>
  obtain⟨ms,c,rfl,h1,h2⟩:=h;exact mZ.bel hn h1
 |miter im k seen=>exact hn im h.1
 |mapg es c=>
  obtain⟨ms,rfl,h1,h2⟩:=h;exact kH.bel hn h1
 |mitg im k seen=>exact hn im h.1
theorem OR.cut{V V':cG}{n:Nat}{k:rA}{o:Obj}(hv:∀v p,aQ V v p->bF n p->aQ V' v p)(h:OR V k o)(hb:EK n (.obj k)):OR V' k o:=by
 cases k with
 |iter s pos=>exact h
 |mapo es=>
  obtain⟨ms,c,rfl,h1,h2⟩:=h;exact⟨ms,c,rfl,h1.imp λv e he hr=>hv _ _ hr (hb e he),h2⟩
 |miter im k seen=>
  have h1:=hv _ _ (aQ.mapp im h.1) (.mapp _ hb);generalize hq:Value.map (some (V.rho im))=q at h1;generalize hp:PV.mapp im=p at h1;cases h1<;>cases hp;rename_i hbn;injection hq with hq;injection hq with hq;exact⟨hbn,by rw[h.2,hq]⟩
 |mapg es c=>
  obtain⟨ms,rfl,h1,h2⟩:=h;exact⟨ms,rfl,h1.imp λv e he hr=>hv _ _ hr (hb e he),h2⟩
 |mitg im k seen=>
  have h1:=hv _ _ (aQ.mapp im h.1) (.mapp _ hb);generalize hq:Value.map (some (V.rho im))=q at h1;generalize hp:PV.mapp im=p at h1;cases h1<;>cases hp;rename_i hbn;injection hq with hq;injection hq with hq;exact⟨hbn,by rw[h.2,hq]⟩
def iJ(n:Nat)(H:aH):Prop:=∀o∈H,EK n o
theorem aK.Ok.hbel{E:aK}(h:E.Ok):iJ E.H.length E.H:=by
 intro o ho;obtain⟨id,hid,rfl⟩:=List.getElem_of_mem ho;cases hq:E.H[id]with
 |row cs=>
  intro c hc;obtain⟨arr,elem,h1,h2,h3,h4⟩:=h.rows id cs (by rw[aNi hid,hq]);obtain⟨i,hl,rfl⟩:=List.getElem_of_mem hc;exact(h3 i hl).bel λid hb=>RE hb
 |obj k=>
  obtain⟨⟨o,h1,h2⟩,_⟩:=h.objs.at_ id k (by rw[aNi hid,hq]);exact h2.bel λid hb=>RE hb
 |_=>trivial
def aK.cutH(E:aK)(H1:aH):aK:= {E with H:=H1}
section cutH
variable{E:aK}(ho:E.Ok){H1 L:aH}(hE:E.H=H1++L)
include hE
omit hE in
theorem mY{H1 L H:aH}(hE:H=H1++L){id:Nat}(hid:id<H1.length):H[id]? =H1[id]? :=by rw[hE,aM0 hid]
theorem aK.cutH_rel{v:Value}{p:PV}(h:aQ E.view v p)(hp:bF H1.length p):aQ (E.cutH H1).view v p:=by
 refine aQ.cut (V:=E.view) (V':=(E.cutH H1).view) (n:=H1.length) (λa v h=>h) (λid hid hb=>⟨?_,rfl,λt ht=> ?_⟩) h hp
 ·obtain⟨o,h1,h2⟩:=hb;exact⟨o,by show H1[id]? =some o;rw[<-mY hE hid];exact h1,h2⟩
 ·simp only[aK.view,aK.cutH,<-mY hE hid]at ht⊢;exact ht
theorem aK.cutH_leN{n:Nat}(hn:n<=H1.length):E.leN n (E.cutH H1):=by
 refine⟨rfl,rfl,rfl,aMq _,λb hb _=>⟨rfl,rfl⟩,λa v h=>h,λid hid hb=>⟨?_,rfl,λt' ht=>⟨t', ?_, .inl rfl⟩⟩,λb hb=>Or.imp ?_ (Or.imp ?_ (aK.ownsObj_of (E:=E) (E':=E.cutH H1) λid k h1=>⟨by rw[mY hE (lG h1)];exact h1,rfl⟩))⟩
 ·obtain⟨o,h1,h2⟩:=hb;exact⟨o,by show H1[id]? =some o;rw[<-mY hE z8];exact h1,h2⟩
 ·have hid':id<H1.length:=z8
  simp only[aK.view,aK.cutH,<-mY hE hid']at ht⊢;exact ht
 ·rintro⟨id,cs,h1,h2⟩;exact⟨id,cs,by rw[mY hE (lG h1)];exact h1,h2⟩
 ·rintro⟨id,m,sz,h1,h2⟩;exact⟨id,m,sz,by rw[mY hE (lG h1)];exact h1,h2⟩
include ho in
theorem aK.Ok.cutH(hb:iJ H1.length H1):(E.cutH H1).Ok:=by
 have hg:∀ {id:Nat} {o:AObj},H1[id]? =some o->E.H[id]? =some o:=λh=>by rw[mY hE (lG h)];exact h
 refine⟨?_, ?_, ?_, ?_,ho.globs_of (λa v h=>h) λid b vs hi=>hg hi,⟨λid k hi=> ?_,λid id' k k' h1 h2 e=>ho.objs.inj id id' k k' (hg h1) (hg h2) e⟩⟩
 rotate_left 4
 ·obtain⟨⟨o,a1,a2⟩,a3⟩:=ho.objs.at_ id k (hg hi);exact⟨⟨o,a1,a2.cut (λv p hv hp=>aK.cutH_rel hE hv hp) (hb _ (List.mem_of_getElem? hi))⟩,a3⟩
 ·intro id cs hi;obtain⟨arr,elem,h1,h2,h3,h4⟩:=ho.rows id cs (hg hi);have hm:AObj.row cs∈H1:=List.mem_of_getElem? hi;exact⟨arr,elem,h1,h2,λi hl=>aK.cutH_rel hE (h3 i hl) (hb _ hm _ (aNq hl)),h4⟩
 ·intro id n sz b hi hb;exact ho.bufs id n sz b (hg hi) hb
 ·intro id id' cs cs' h1 h2 e;exact ho.injr id id' cs cs' (hg h1) (hg h2) e
 ·intro id id' n sz n' sz' b h1 h2 e e';exact ho.injb id id' n sz n' sz' b (hg h1) (hg h2) e e'
end cutH
def keep(live:List Nat)(T:aJ):aJ:=λi=>if i∈live then T i else .junk
theorem BG{E:aK}{a:Act}(ht:eR E.view N a T){H1 L:aH}(hE:E.H=H1++L){live:List Nat}(hl:∀i∈live,bF H1.length (T i)):eR (E.cutH H1).view N a (keep live T):=by
 refine⟨ht.size,ht.defers,λi hi=> ?_⟩;unfold keep
 split
 ·rename_i hm;exact aK.cutH_rel hE (ht.rel i hi) (hl i hm)
 ·exact .junk _
theorem aFo{c:Code}(live:List Nat){H1 L:aH}(hH:H=H1++L)(hn:nb<=H1.length)(hb:iJ H1.length H1)(hl:∀i∈live,bF H1.length (T i))(h:fO P N nb c Q (keep live T) H1):fO P N nb c Q T H:=by
 intro E a ho hE ht;have hE':E.H=H1++L:=hE.trans hH;exact wp_mono (h (E.cutH H1) a (ho.cutH hE' hb) rfl (BG ht hE' hl)) λe a w hl=>fH (aK.cutH_leN hE' hn) (λ_ _ _ q=>q) hl
theorem ZN{c:Code}(live:List Nat)(I:Nat->aJ->aH->Prop)(n0:Nat)(h0:I n0 T H)
  (round:∀n T H,I n T H->fO P N nb c (bQ (λT' H'=>∃n' H1 L,n'<n/\H'=H1++L/\nb<=H1.length/\iJ H1.length H1/\(∀i∈live,bF H1.length (T' i))/\I n' (keep live T') H1) Q) T H):fO P N nb (.loop c) Q T H:=by
 intro E a ho hH ht
 let J:Nat->Act->World->Prop:=λn a w=>∃E' T',E'.w=w/\E.leN nb E'/\E'.Ok/\eR E'.view N a T'/\I n T' E'.H
 refine wp_loop (λa w=>∃n,J n a w) (λa w=>zQ (λn=>J n a w)) ⟨n0,E,T,rfl, .refl nb E,ho,ht,hH▸h0⟩ ?_;intro a1 w1 hJ;obtain⟨E1,T1,hw1,hle,ho1,ht1,hI⟩:=rV hJ;have hr:=round _ T1 E1.H hI E1 a1 ho1 rfl ht1;rw[hw1]at hr;refine wp_mono hr ?_;intro e a' w' hl;obtain⟨E',T',rfl,h2,h3,h4,h5⟩:=hl;cases e with
 |normal=>
  obtain⟨n',H1,L,hn,hE,hnb,hb,hlv,hI'⟩:=h5;have hJ':J n' a' E'.w:=⟨E'.cutH H1,keep live T',rfl,(hle.trans h2).trans (aK.cutH_leN hE hnb),h3.cutH hE hb,BG h4 hE hlv,hI'⟩;exact⟨⟨n',hJ'⟩,Nat.lt_of_le_of_lt (xE hJ') hn⟩
 |_=>exact⟨E',T',rfl,hle.trans h2,h3,h4,h5⟩
def aR(P:Program)(f:FuncId)(args:List PV)(H:aH)(R:PV->aH->Prop):Prop:=
 ∀(E:aK) (vargs:Array Value),E.Ok->E.H=H->RL E.view vargs args->Calls P f vargs E.w λe w'=>∃(E':aK) (v:Value) (r:PV),e= .returned v/\E'.w=w'/\E.le E'/\E'.Ok/\aQ E'.view v r/\R r E'.H
theorem aR.mono{f:FuncId}{args:List PV}{R R':PV->aH->Prop}(h:aR P f args H R)(hr:∀r H,R r H->R' r H):aR P f args H R':=
 λE vargs ho hH hl=>(h E vargs ho hH hl).mono λe w' ⟨E',v,r,h1,h2,h3,h4,h5,h6⟩=>⟨E',v,r,h1,h2,h3,h4,h5,hr _ _ h6⟩
def appS(H:aH)(e:pK):aH:=
 match e with
 |some (id,o)=>if id=H.length then H++ [o]else H.set id o
 |none=>H
theorem rU{H:aH}{id:Nat}{o:AObj}(h:H[id]? =some o):(H++ [AObj.unborn])[id]? =some o:=by
 rw[aM0 (lG h)];exact h
theorem UY{i:TI}{x v:PV}(h:jK i H x=some v):jK i (H++ [.unborn]) x=some v:=by
 unfold jK at h⊢
 split at h
 ·rename_i id off
  split at h
  ·rename_i cs hcs;simp only[rU hcs];exact h
  ·cases h
 ·exact h
 ·cases h
theorem IC{fresh:Nat}{b:Builtin}{xs:List Operand}{ts:List TypeId}{v:PV}{e:pK}(h:dA P fresh T H b xs ts=some (v,e)):dA P fresh T (H++ [.unborn]) b xs ts=some (v,e):=by
 unfold dA at h⊢
 split at h
 ·exact h
 ·exact h
 ·exact h
 ·rename_i x y t u;obtain⟨ei,hf,h⟩:=bind_some h;obtain⟨z,hz,h⟩:=bind_some h;simp only[hf,hz,aM3]
  split at h
  ·rename_i hc;rw[if_pos hc];unfold cK at h⊢
   split at h
   ·split at h
    ·rename_i hx;rw[if_pos hx];exact h
    ·rename_i hx;rw[if_neg hx]
     split at h
     ·rename_i hc2;rw[if_pos hc2]
      split at h
      ·exact h
      ·rename_i id
       split at h
       ·rename_i n sz hid;simp only[rU hid];exact h
       ·cases h
      ·cases h
     ·cases h
   ·cases h
  ·cases h
 ·cases h
theorem LT{t:TypeId}{x k v:PV}{ok:Bool}(h:cD P H t x k ok=some v):cD P (H++ [.unborn]) t x k ok=some v:=by
 unfold cD at h⊢
 split at h
 ·split at h
  ·rename_i hid;simp only[rU hid];exact h
  ·cases h
 ·split at h
  ·rename_i hid;simp only[rU hid];exact h
  ·cases h
 ·cases h
theorem LG{t:TypeId}{x k v:PV}{p:Nat×AObj}(h:dG P H t x k v=some p):dG P (H++ [.unborn]) t x k v=some p:=by
 unfold dG at h⊢
 split at h
 ·split at h
  ·rename_i hid;simp only[rU hid];exact h
  ·cases h
 ·split at h
  ·rename_i hid;simp only[rU hid];exact h
  ·cases h
 ·cases h
theorem aB8{mt:Bool}{fresh:Nat}{o:Op}{v:PV}{e:pK}(h:fN P mt fresh T H o=some (v,e)):fN P mt fresh T (H++ [.unborn]) o=some (v,e):=by
 unfold fN at h⊢
 split at h<;>try exact h
 ·obtain⟨i,hi,h⟩:=bind_some h;obtain⟨p,hp,h⟩:=bind_some h;simp only[hi,aM3,UY hp];exact h
 ·obtain⟨i,hi,h⟩:=bind_some h;obtain⟨p,hp,h⟩:=bind_some h;simp only[hi,aM3];have:∀ {x y:PV} {q},nS i H x y=some q->nS i (H++ [.unborn]) x y=some q:=by
   intro x y q hq;unfold nS at hq⊢
   split at hq
   ·split at hq
    ·rename_i cs hcs;simp only[rU hcs];exact hq
    ·cases hq
   ·cases hq
  simp only[this hp,aM3];exact h
 ·obtain⟨p,hp,h⟩:=bind_some h;simp only[LT hp,aM3];exact h
 ·obtain⟨p,hp,h⟩:=bind_some h;simp only[LG hp,aM3];exact h
 ·split at h
  ·exact IC h
  ·cases h
def bC(P:Program)(N nb:Nat)(ops:Array Oper)(Q:cT)(l:List Oper)(T:aJ)(H:aH):Prop:=
 ∀(E:aK) (a:Act),E.Ok->E.H=H->eR E.view N a T->wpList P ops (qG N nb E Q) l a E.w
def aZ(ops:List Oper)(T:aJ)(N:Nat)(o:Oper):Option Bool:=
 match o.guard with
 |none=>some true
 |some (j,want)=>match(ops[j]?).bind (·.dst)with
  |some d=>if d<N then match T d with
   | .bool b=>some (b==want)
   |_=>none
   else none
  |none=>none
theorem bY{ops:Array Oper}{o:Oper}{b:Bool}{V:cG}{a:Act}(ht:eR V N a T)(h:aZ ops.toList T N o=some b):Region.wanted o (yielded ops a.tmps)=b:=by
 unfold aZ at h;unfold Region.wanted
 split at h
 ·cases h;rename_i hg;simp only[hg]
 ·rename_i j want hg;simp only[hg]
  split at h
  ·rename_i d hd
   split at h
   ·rename_i hdN
    split at h
    ·rename_i q hq;cases h;have hr:=ht.rel d hdN;rw[hq]at hr;have hv:=hr.bool_inv;have hy:yielded ops a.tmps j=some q:=by
      unfold yielded;rw[aNk]at hd;rw[hd];simp only[aM3];rw[aMt,aMy (by rw[ht.size];exact hdN)]at hv;rw[aMy (by rw[ht.size];exact hdN)];simp only[aMz]at hv;rw[hv]
     rw[hy];cases q<;>cases want<;>rfl
    ·cases h
   ·cases h
  ·cases h
theorem dS{P:Program}{ops:Array Oper}{Q:Exit->Act->World->Prop}{a:Act}{w:World}{rest:List Oper}{o:Oper}(hw:Region.wanted o (yielded ops a.tmps)=true)
  (h:o.wp P a w (wpList P ops Q rest) Q):wpList P ops Q (o::rest) a w:=by
 unfold wpList;rw[if_pos hw];exact .inl h
theorem oN{ops:Array Oper}(h:Q .normal T H):bC P N nb ops Q [] T H:=λE a ho hH ht=>⟨E,T,rfl, .refl nb E,ho,ht,hH▸h⟩
theorem dL{P:Program}{ops:Array Oper}{Q Q':Exit->Act->World->Prop}(hq:∀e a w,Q e a w->Q' e a w):∀(l:List Oper) (a:Act) (w:World),wpList P ops Q l a w->wpList P ops Q' l a w
 | [],a,w,h=>hq _ _ _ h
 |o::l,a,w,h=>by
  have hout:LetsOut Q->LetsOut Q':=λ⟨a,w,x⟩=>⟨a,w,hq _ _ _ x⟩;unfold wpList at h⊢
  split at h
  ·rename_i hw;rw[if_pos hw];rcases h with h| ⟨h1,h2⟩
   ·left;unfold Oper.wp at h⊢;generalize (execOp a.eval o).run P w=r at h⊢;unfold Oper.upon at h⊢
    split at h
    ·exact dL hq l _ _ h
    ·exact dL hq l _ _ h
    ·exact dL hq l _ _ h
    ·refine h.mono λe w'' he=> ?_;cases e with
     |returned v=>exact dL hq l _ _ he
     |panicked ch=>exact hq _ _ _ he
     |outgrown=>exact hout he
    ·exact h.mono λv w'' he=>dL hq l _ _ he
    ·exact hq _ _ _ h
    ·exact h.elim
   ·exact .inr ⟨h1,hout h2⟩
  ·rename_i hw;rw[if_neg hw];exact dL hq l _ _ h
theorem yO{ops:Array Oper}{o:Oper}{l:List Oper}(hw:aZ ops.toList T N o=some false)(h:bC P N nb ops Q l (bT T o.dst .junk) H):bC P N nb ops Q (o::l) T H:=by
 intro E a ho hH ht;unfold wpList;rw[if_neg (by rw[bY ht hw];simp)];exact h E _ ho hH (ht.put o.dst (.junk _))
theorem eB{ops:Array Oper}{o:Oper}{l:List Oper}{v:PV}{H':aH}(hw:aZ ops.toList T N o=some true)
  (hd:∀(E:aK) (a:Act),E.Ok->E.H=H->eR E.view N a T->∃(E':aK) (val:Value),((execOp a.eval o).run P E.w= .ok (.value val) E'.w\/((execOp a.eval o).run P E.w= .ok .skip E'.w/\val=undef))/\E.le E'/\E'.Ok/\E'.H=H'/\aQ E'.view val v)
  (h:bC P N nb ops Q l (bT T o.dst v) H'):bC P N nb ops Q (o::l) T H:=by
 intro E a ho hH ht;obtain⟨E',val,h1,h2,h3,h4,h5⟩:=hd E a ho hH ht;refine dS (bY ht hw) ?_;have hn:=dL (λe a w hl=>fH (h2.leN nb) (λ_ _ _ q=>q) hl) l _ _ (h E' (a.put o.dst val) h3 h4 ((ht.mono h2.view).put o.dst h5));unfold Oper.wp;rcases h1 with h1| ⟨h1,rfl⟩
 ·rw[h1];exact hn
 ·rw[h1];exact hn
theorem RT{ops:Array Oper}{o:Oper}{l:List Oper}(mt:Bool){v:PV}{e:pK}{H':aH}(hw:aZ ops.toList T N o=some true)(hok:dC N o.op=true)(hv:fN P mt H.length T H o.op=some (v,e))
  (hH':appS H e=H') (h:bC P N nb ops Q l (bT T o.dst v) H'):bC P N nb ops Q (o::l) T H:=by
 refine eB hw (λE a ho hH ht=> ?_) h;subst hH
 by_cases hn:∃ob,e=some (E.H.length,ob)
 ·obtain⟨ob,rfl⟩:=hn;have hx:=E.ext_le;obtain⟨E',val,h1,h2,h3,h4,h5⟩:=rI (E:=E.ext) ho.ext (ht.mono hx.view) hok (mt:=mt) (fresh:=E.H.length) (v:=v) (eff:=some (E.H.length,ob)) (aB8 hv)
   (λ_ _=>by simp[aK.ext])
  refine⟨E',val,h1,hx.trans h2,h3, ?_,h5⟩;rw[h4,<-hH'];simp only[pK.app,appS,if_true,aK.ext];rw[aN4 _ _ (aMq _)];simp
 ·obtain⟨E',val,h1,h2,h3,h4,h5⟩:=rI ho ht hok hv (λob he=>(hn ⟨ob,he⟩).elim);refine⟨E',val,h1,h2,h3, ?_,h5⟩;rw[h4,<-hH'];cases e with
  |none=>rfl
  |some q=>
   obtain⟨id,ob⟩:=q;simp only[pK.app,appS];rw[if_neg (λe=>hn ⟨ob,by rw[e]⟩)]
def bO(P:Program)(f:FuncId):Bool:=
 match P.funcs[f]? with
 |some fn=>fn.body.isSome&& !(fn.name== "runtime.NumGoroutine")
 |none=>false
theorem lI{P:Program}{w:World}{f:FuncId}(h:bO P f=true)(args:Array Value):(callFunc f args).run P w= .ok (.enter f args) w:=by
 unfold bO at h
 split at h
 ·rename_i fn hf;simp only[aMj,aMk]at h;have hb:fn.body.isNone=false:=by cases hq:fn.body<;>simp_all
  simp only[callFunc,aM9,BM,aNa,hf,h.2,aNh,if_false,hb,aNc]
 ·cases h
theorem iE{V:cG}{a b:Array Value}{x y:List PV}(h1:RL V a x)(h2:RL V b y):RL V (a++b) (x++y):=mN h1 h2
theorem UA{ops:Array Oper}{o:Oper}{l:List Oper}{fo:Operand}{xs:Array Operand}{ts:Array TypeId}(hop:o.op= .call ⟨.value fo,xs,ts⟩)(hw:aZ ops.toList T N o=some true)(hok:dC N o.op=true)
  {f:FuncId} {pf pc:List PV} (hf:bS T fo= .fn (.func f) pf pc) (hgo:bO P f=true) {args:List PV} (hargs:pf++(xs.toList.map λx=>(bS T x).drop1)++pc=args) {R:PV->aH->Prop} (hc:aR P f args H R)
  (h:∀r H',R r H'->bC P N nb ops Q l (bT T o.dst r) H'):bC P N nb ops Q (o::l) T H:=by
 intro E a ho hH ht;refine dS (bY ht hw) ?_;have hall:∀x∈o.op.operands.toList,aU N x=true:=λx hx=>aNz.1 hok x hx;rw[hop]at hall;simp only[Op.operands,Call.operands]at hall;have hr:=aN ht fo (hall fo zz);rw[hf]at hr;obtain⟨first,caps,hval,h1,h2⟩:∃first caps,a.eval fo= .func (.func f) first caps/\RL E.view first pf/\RL E.view caps pc:=by
  generalize a.eval fo=y at hr;cases hr with
  |fn _ first caps _ _ hf hc hrf hrc=>exact⟨first,caps,rfl,⟨hf,hrf⟩,⟨hc,hrc⟩⟩
 have h3:=vP ht xs (aNz.2 λx hx=>hall x (by simp;right;simpa using hx));have hrl:=iE (iE h1 h3) h2;rw[hargs]at hrl;have hrun:(execOp a.eval o).run P E.w= .ok (.enter f (first++xs.map a.eval++caps)) E.w:=by
  unfold execOp;rw[hop];simp only[resolve,hval,Deferred.ofValue,aM9,aNc,aNa,invoke,lI hgo]
 unfold Oper.wp;rw[hrun];refine(hc E _ ho hH hrl).mono ?_;rintro e w' ⟨E',v,r,rfl,rfl,h5,h6,h7,h8⟩;exact dL (λe a w hl=>fH (h5.leN nb) (λ_ _ _ q=>q) hl) l _ _ (h r E'.H h8 E' (a.put o.dst v) h6 rfl ((ht.mono h5.view).put o.dst h7))
theorem wR{id:Nat}{ops:Array Oper}(h:bC P N nb ops Q ops.toList T H):fO P N nb (.region id ops false) Q T H:=
 λE a ho hH ht=>wp_region_list (h E a ho hH ht)
def lV(P:Program)(N:Nat)(T:aJ)(H:aH):ResultVar->Option PV
 | .tmp t=>if t<N then some (T t)else none
 | .cell t ty=>if t<N then(bZ P ty).bind λi=>jK i H (T t)else none
def fQ(P:Program)(N:Nat)(T:aJ)(H:aH)(rs:List ResultVar):Option PV:=
 match rs with
 | [r]=>lV P N T H r
 |rs=>(rs.mapM (lV P N T H)).map λvs=>.tup (vs.map PV.drop1)
def aCb(tmps:Array Value):ResultVar->Sem Value
 | .tmp t=>pure (tmps.getD t undef)
 | .cell a t=>do loadVar t (<-asAddr (tmps.getD a undef))
theorem QH(fn:Func)(tmps:Array Value):results fn tmps=(do let vs<-fn.results.mapM (aCb tmps);pure (if h:vs.size=1 then vs[0]else .tuple vs)):=by
 unfold results;congr 2
theorem KI{E:aK}{a:Act}(ho:E.Ok)(ht:eR E.view N a T){r:ResultVar}{v:PV}(h:lV P N T E.H r=some v):
  ∃val,(aCb a.tmps r).run P E.w= .ok val E.w/\aQ E.view val v:=by
 cases r with
 |tmp t=>
  unfold lV at h;simp only at h
  split at h
  ·rename_i hN;cases h;exact⟨_,rfl,ht.rel t hN⟩
  ·cases h
 |cell x t=>
  unfold lV at h;simp only at h
  split at h
  ·rename_i hN;obtain⟨i,hi,hv⟩:=bind_some h;obtain⟨val,h1,h2⟩:=AZ (P:=P) ho ht (x:=.tmp x) (by simpa[aU]using hN) hi hv;refine⟨val, ?_,h2⟩;have hp:∃ad,a.tmps.getD x undef= .pointer (some ad):=by
    have hr:=ht.rel x hN;unfold jK at hv
    skip
    split at hv
    ·rename_i id off hT;rw[hT]at hr;exact⟨_,hr.optr_inv.1⟩
    ·rename_i cs hT;rw[hT]at hr;obtain⟨ad,_,e,_,_⟩:=hr.iptr_inv;exact⟨ad,e⟩
    ·cases hv
   obtain⟨ad,hp⟩:=hp;simp only[Act.eval,Instr.loadAt,hp,Instr.sureAddr,aM9,aNc,aNa]at h1;simp only[aCb,hp,asAddr,aM9,aNc,aNa];exact h1
  ·cases h
theorem MY:∀(rs:List ResultVar) (vs:List PV),rs.mapM (lV P N T H)=some vs->vs.length=rs.length:=by
 intro rs
 induction rs with
 |nil=>intro vs h;simp at h;subst h;rfl
 |cons r rs ih=>
  intro vs h;rw[List.mapM_cons]at h;cases h1:lV P N T H r with
  |none=>rw[h1]at h;simp at h
  |some v=>
   cases h2:rs.mapM (lV P N T H)with
   |none=>rw[h1]at h;simp[h2]at h
   |some vs'=>rw[h1]at h;simp[h2]at h;subst h;simp[ih vs' h2]
theorem BD{E:aK}{a:Act}(ho:E.Ok)(ht:eR E.view N a T):∀(rs:List ResultVar) (vs:List PV),rs.mapM (lV P N T E.H)=some vs->
   ∃qF:List Value,(rs.mapM (aCb a.tmps)).run P E.w= .ok qF E.w/\qF.length=vs.length/\∀i (h:i<vs.length),aQ E.view (qF.getD i undef) vs[i]:=by
 intro rs
 induction rs with
 |nil=>intro vs h;simp at h;subst h;exact⟨[],rfl,rfl,λi h=>absurd h zz⟩
 |cons r rs ih=>
  intro vs h;rw[List.mapM_cons]at h;cases h1:lV P N T E.H r with
  |none=>rw[h1]at h;simp at h
  |some v=>
   cases h2:rs.mapM (lV P N T E.H)with
   |none=>rw[h1]at h;simp[h2]at h
   |some vs'=>
    rw[h1]at h;simp[h2]at h;subst h;obtain⟨val,e1,e2⟩:=KI ho ht h1;obtain⟨qF,e3,e4,e5⟩:=ih vs' h2;refine⟨val::qF, ?_,by simp[e4],λi hi=> ?_⟩
    ·rw[List.mapM_cons];simp only[aM9,e1,aNa,e3,aNc]
    ·cases i with
     |zero=>exact e2
     |succ i=>exact e5 i (by simpa using hi)
theorem lE{E:aK}{a:Act}(ho:E.Ok)(ht:eR E.view N a T){fn:Func}{v:PV}(h:fQ P N T E.H fn.results.toList=some v):
  ∃val,(results fn a.tmps).run P E.w= .ok val E.w/\aQ E.view val v:=by
 unfold fQ at h;rw[QH,Array.mapM_eq_mapM_toList]
 split at h
 ·rename_i r hr;obtain⟨qF,e1,e2,e3⟩:=BD ho ht [r] [v] (by rw[List.mapM_cons,h];rfl);rw[hr]
  match qF,e2 with
  | [val],_=>
   refine⟨val, ?_,e3 0 zz⟩;simp only[aM9,Sem.run_map,e1,aNa,aNc];rfl
 ·rename_i rs hne;cases h1:fn.results.toList.mapM (lV P N T E.H)with
  |none=>rw[h1]at h;cases h
  |some vs=>
   rw[h1]at h;simp only[aM6,Option.some.injEq]at h;subst h;obtain⟨qF,e1,e2,e3⟩:=BD ho ht _ vs h1;have hl:=MY _ _ h1;have hne1:¬qF.toArray.size=1:=by
    intro hs;have hl2:fn.results.toList.length=1:=by rw[<-hl,<-e2];simpa using hs
    obtain⟨r,hr⟩:=List.length_eq_one_iff.1 hl2;exact hne r hr
   refine⟨.tuple qF.toArray, ?_, .tup _ _ (by simp[e2]) (sK (λi hi=> ?_))⟩
   ·simp only[aM9,Sem.run_map,e1,aNa,aNc,dif_neg hne1]
   ·have:=e3 i hi;rw[aNj]at this;rw[aMt,aNf];exact this
def enter(args:List PV):aJ:=λi=>args.getD i .junk
theorem aF{f:FuncId}{fn:Func}{c:Code}{args:List PV}{R:PV->aH->Prop}(hf:P.funcs[f]? =some fn)(hb:fn.body=some c)(hN:fn.ntmps=N)(hl:args.length<=N)
  (h:iJ H.length H->fO P N H.length c (λe T H=>(e= .normal\/e= .ret)/\∃r,fQ P N T H fn.results.toList=some r/\R r H) (enter args) H):aR P f args H R:=by
 intro E vargs ho hH hrl;refine calls_of_wp hf hb (wp_mono (h (by have:=ho.hbel;rw[hH]at this;exact this) E _ ho hH ⟨by simp[hrl.1,hN];omega,rfl,λi hi=> ?_⟩) ?_)
 ·rw[aMt,Array.getElem?_append];unfold enter
  by_cases hia:i<args.length
  ·rw[if_pos (by rw[hrl.1];exact hia),<-aMt,aNj,aNi hia];exact hrl.2 i hia
  ·rw[aNj,aM2 z8];exact .junk _
 ·rintro e a w ⟨E',T',rfl,h2,h3,h4,he,r,hr,hR⟩;obtain⟨val,h5,h6⟩:=lE (P:=P) (fn:=fn) h3 h4 hr;rcases he with rfl|rfl
  ·exact⟨h4.defers,val,h5,E',val,r,rfl,rfl,(hH▸h2:E.leN E.H.length E').le,h3,h6,hR⟩
  ·exact⟨h4.defers,val,h5,E',val,r,rfl,rfl,(hH▸h2:E.leN E.H.length E').le,h3,h6,hR⟩
end rules
section
variable{P:Program}
theorem aR.pure{f:FuncId}{args:List PV}{r:PV}(h:aR P f args [] λr' _=>r'.drop1=r)(ha:∀p∈args,bF 0 p)(hr:bF 0 r)(H:aH):
  aR P f args H λr' H'=>r'=r/\H'=H:=by
 intro E vargs ho hH hrl
 let E0:aK:= {E with H:= []}
 have ho0:E0.Ok:=⟨λid cs h=>by simp[E0]at h,λid n sz b h=>by simp[E0]at h,λid id' cs cs' h=>by simp[E0]at h,λid id' n sz n' sz' b h=>by simp[E0]at h,λid b vs h=>by simp[E0]at h,⟨λid k h=>by simp[E0]at h,λid id' k k' h=>by simp[E0]at h⟩⟩;have hcell:∀a v,E.view.cell a=some v->E0.view.cell a=some v:=λa v h=>h;have hrl0:RL E0.view vargs args:=⟨hrl.1,λi hi=>(hrl.2 i hi).cut (n:=0) hcell (λid h=>absurd h z8) (ha _ (aNq hi))⟩;refine(h E0 vargs ho0 rfl hrl0).mono ?_;rintro e w' ⟨E1,v,r',rfl,rfl,hle,ho1,hv,hq⟩;have hno:∀b,¬E0.owns b:=by rintro b (⟨id,cs,h,_⟩| ⟨id,n,sz,h,_⟩| ⟨id,k,h,_⟩)<;>simp[E0]at h
 have hsame:∀b,b<E.w.heap.size->E1.κ b=E.κ b/\E1.w.heap[b]? =E.w.heap[b]? :=λb hb=>hle.other b hb (hno b)
 let E2:aK:= {E1 with ρ:=E.ρ,tb:=E.tb,H:=E.H}
 have hview:E.view.le E2.view:=by
  refine⟨λa v hc=>hle.view.cell a v hc,λid h=>h,λid _=>rfl,λid t' hb ht=>⟨t', ?_, .inl rfl⟩⟩;simp only[aK.view,E2]at ht⊢
  split at ht
  ·rename_i n sz hid;rw[<-ht];cases htb:E.tb id with
   |none=>rfl
   |some b=>simp only[aM3,(hsame b (ho.bufBlock hid htb)).1]
  ·cases ht
 have hle2:E.le E2:=by
  refine⟨hle.os,hle.tape,hle.output,hle.size,λb hb _=>hsame b hb,hview,λb _=>id⟩
 have ho2:E2.Ok:=by
  refine⟨?_, ?_,ho.injr,ho.injb,ho.globs_of hview.cell λ_ _ _ h=>h,ho.objs.of hview λid k hi=>let ⟨s1,s2⟩:=hsame _ (ho.objs.lt hi);⟨hi,rfl,s2,s1⟩⟩
  ·intro id cs hi;obtain⟨arr,elem,h1,h2,h3,h4⟩:=ho.rows id cs hi;obtain⟨s1,s2⟩:=hsame _ (ho.rowBlock hi);exact⟨arr,elem,s2.trans h1,h2,λi hl=>(h3 i hl).mono hview,s1.trans h4⟩
  ·intro id n sz b hi hb;obtain⟨arr,elem,pos,h1,h2⟩:=ho.bufs id n sz b hi hb;obtain⟨s1,s2⟩:=hsame _ (ho.bufBlock hi hb);exact⟨arr,elem,pos,s2.trans h1,s1.trans h2⟩
 refine⟨E2,v,r,rfl,rfl,hle2,ho2, ?_,rfl,hH⟩;have hv':=hv.drop1;rw[hq]at hv';exact aQ.cut (V:=E1.view) (V':=E2.view) (n:=0) (λa v h=>h) (λid h=>absurd h z8) hv' hr
theorem aR.trunc{f:FuncId}{args:List PV}{H:aH}{R:PV->aH->Prop}
  (h:aR P f args H λr H'=>∃H1 L,H'=H1++L/\H1.length=H.length/\(iJ H.length H->iJ H.length H1)/\bF H.length r/\R r H1):aR P f args H R:=by
 intro E vargs ho hH hrl;refine(h E vargs ho hH hrl).mono ?_;rintro e w' ⟨E1,v,r,rfl,rfl,hle,ho1,hv,H1,L,hE1,hlen,hbel,hr,hR⟩;have hb1:iJ H1.length H1:=by rw[hlen];exact hbel (by have:=ho.hbel;rw[hH]at this;exact this)
 refine⟨E1.cutH H1,v,r,rfl,rfl, ?_,ho1.cutH hE1 hb1,aK.cutH_rel hE1 hv (by rw[hlen];exact hr),hR⟩;have hn:E.H.length=H1.length:=by rw[hH,hlen]
 exact((hle.leN E.H.length).trans (aK.cutH_leN hE1 (Nat.le_of_eq hn))).le
end
def pX(ops:List Oper)(o:Oper):List Nat:=
  (o.op.operands.toList.filterMap fun| .tmp t=>some t|_=>none)++(match o.guard with|some (j,_)=>((ops[j]?).bind (·.dst)).toList|none=> [])
def mS(H:aH)(es:List (Nat×AObj)):aH:=es.foldl (λH x=>H.set x.1 x.2) H
def Rob(P:Program)(N:Nat)(ops:Array Oper)(o:Oper)(T:aJ)(H:aH)(v:PV)(eff:List (Nat×AObj))(rd:List Nat):Prop:=
  ∀(T':aJ) (H':aH),(∀t∈pX ops.toList o,T' t=T t)->(∀id∈rd,H'[id]? =H[id]?)->H'.length=H.length->
    ∀(E:aK) (a:Act),E.Ok->E.H=H'->eR E.view N a T'->
      (Region.wanted o (yielded ops a.tmps)=false/\eff= []/\(v= .junk\/v= .tup []))\/
      (Region.wanted o (yielded ops a.tmps)=true/\∀(next:Act->World->Prop) (Q:Exit->Act->World->Prop),
        (∀(E':aK) (val:Value),E.le E'->E'.Ok->E'.H=mS H' eff->aQ E'.view val v->next (a.put o.dst val) E'.w)->o.wp P a E.w next Q)
def vX(acc:List Nat)(o:Oper):List Nat:=
  acc++ [o.after.toList.foldl (λs e=>if Region.binds .any e then s ||| 2^e.on ||| acc.getD e.on 0 else s) 0]
def cH(l:List Oper):List Nat:=l.foldl vX []
inductive Bf(ops:List Oper):Nat->Nat->Prop
  |edge {j:Nat} {o:Oper} {e:Edge} (ho:ops[j]? =some o) (he:e∈o.after.toList) (hb:Region.binds .any e=true):Bf ops e.on j
  |trans {i k j:Nat} (h1:Bf ops i k) (h2:Bf ops k j):Bf ops i j
theorem yX{n i:Nat}(h:(2^n).testBit i=true):i=n:=by
  rw[Nat.testBit_two_pow]at h;exact(of_decide_eq_true h).symm
theorem lJ(ops:List Oper):∀(n:Nat) (p rest:List Oper),p.length=n->p++rest=ops->(p.foldl vX []).length=p.length/\∀j i,((p.foldl vX []).getD j 0).testBit i=true->Bf ops i j:=by
  intro n
  induction n with
  |zero=>intro p rest hn h;obtain rfl:=List.length_eq_zero_iff.1 hn;exact⟨rfl,λj i h=>by simp at h⟩
  |succ n ih=>
    intro p0 rest hn h;obtain⟨p,o,rfl⟩:∃p o,p0=p++ [o]:=by
      have hne:p0≠ []:=by rintro rfl;simp at hn
      exact⟨p0.dropLast,p0.getLast hne,(List.dropLast_concat_getLast hne).symm⟩
    obtain⟨h1,h2⟩:=ih p (o::rest) (by simpa using hn) (by simpa using h);rw[List.foldl_append];simp only[List.foldl_cons,List.foldl_nil,vX];refine⟨by simp[h1],λj i hb=> ?_⟩
    by_cases hj:j<p.length
    · rw[aNj,aM0 z8,<-aNj]at hb
      exact h2 j i hb
    · by_cases hj':j=p.length
      · subst hj'
        rw[aNj,aM1 z8,h1]at hb;simp only[aNt,aNw,aMz]at hb;have ho:ops[p.length]? =some o:=by rw[<-h];simp
        have key:∀(es:List Edge) (s:Nat),(∀e∈es,e∈o.after.toList)->(∀i,s.testBit i=true->Bf ops i p.length)->
            (es.foldl (λs e=>if Region.binds .any e then s ||| 2^e.on ||| (p.foldl vX []).getD e.on 0 else s) s).testBit i=true->Bf ops i p.length:=by
          intro es
          induction es with
          |nil=>intro s _ hs hb;exact hs i hb
          |cons e es ih2=>
            intro s hm hs hb;simp only[List.foldl_cons]at hb;refine ih2 _ (λe he=>hm e (by simp[he])) (λi hi=> ?_) hb
            split at hi
            · rename_i hbd
              rw[Nat.testBit_or,Nat.testBit_or]at hi;simp only[Bool.or_eq_true]at hi;have hed:Bf ops e.on p.length:=.edge ho (hm e zz) hbd;rcases hi with(hi|hi)|hi
              · exact hs i hi
              · rw[yX hi];exact hed
              · exact .trans (h2 _ _ hi) hed
            · exact hs i hi
        exact key o.after.toList 0 (λe he=>he) (λi hi=>by simp at hi) hb
      · rw[aNj,aM2 (by simp[h1];omega)]at hb
        simp at hb
structure qP where
  o:Oper
  v:PV
  eff:List (Nat×AObj)
  rd:List Nat
def qP.app(s:qP)(x:aJ×aH):aJ×aH:=(bT x.1 s.o.dst s.v,mS x.2 s.eff)
def cY(D:Nat->Bool):Nat->List qP->aJ×aH->aJ×aH
  |_,[],x=>x
  |k,s::l,x=>cY D (k+1) l (if D k then s.app x else x)
theorem tT:∀(es:List (Nat×AObj)) (H:aH),(mS H es).length=H.length
  | [],H=>rfl
  |e::es,H=>by
    show(mS (H.set e.1 e.2) es).length=_;rw[tT es];simp
theorem zP:∀(es:List (Nat×AObj)) (H:aH) (id:Nat),(∀e∈es,e.1≠id)->(mS H es)[id]? =H[id]?
  | [],H,id,_=>rfl
  |e::es,H,id,h=>by
    show(mS (H.set e.1 e.2) es)[id]? =_;rw[zP es _ id (λe he=>h e (by simp[he])),aM5 (h e zz)]
theorem tG:∀(es:List (Nat×AObj)) (H H':aH) (id:Nat),H.length=H'.length->H[id]? =H'[id]? ->(mS H es)[id]? =(mS H' es)[id]?
  | [],H,H',id,_,h=>h
  |e::es,H,H',id,hl,h=>by
    refine tG es _ _ id (by simp[hl]) ?_
    by_cases q:e.1=id
    · subst q
      by_cases hlt:e.1<H.length
      · rw[aM4 hlt,aM4 z8]
      · rw[aM2 (by simp;omega),aM2 (by simp;omega)]
    · rw[aM5 q,aM5 q];exact h
theorem GP:∀(es es':List (Nat×AObj)) (H:aH),(∀x∈es,∀y∈es',x.1≠y.1)->mS (mS H es) es'=mS (mS H es') es
  | [],es',H,_=>rfl
  |e::es,es',H,h=>by
    have h1:∀(es':List (Nat×AObj)) (H:aH),(∀y∈es',e.1≠y.1)->mS (H.set e.1 e.2) es'=(mS H es').set e.1 e.2:=by
      intro es'
      induction es' with
      |nil=>intro H _;rfl
      |cons f es' ih=>
        intro H hq;show mS ((H.set e.1 e.2).set f.1 f.2) es'=(mS (H.set f.1 f.2) es').set e.1 e.2;rw[List.set_comm _ _ (hq f zz),ih _ (λy hy=>hq y (by simp[hy]))]
    show mS (mS (H.set e.1 e.2) es) es'=mS ((mS H es').set e.1 e.2) es;rw[<-h1 es' H (λy hy=>h e zz y hy)];exact GP es es' _ (λx hx y hy=>h x (by simp[hx]) y hy)
theorem VS{T:aJ}{d d':Option Nat}{v v':PV}(h:d=none\/d'=none\/d≠d'):bT (bT T d v) d' v'=bT (bT T d' v') d v:=by
  cases d with
  |none=>rfl
  |some d=>
    cases d' with
    |none=>rfl
    |some d'=>
      have hne:d≠d':=by
        rcases h with h|h|h; · cases h
        · cases h
        · exact λe=>h (by rw[e])
      funext i;simp only[bT,upd]
      by_cases h1:i=d
      · subst h1;rw[if_neg hne,if_pos rfl,if_pos rfl]
      · by_cases h2:i=d'
        · subst h2;rw[if_pos rfl,if_neg h1,if_pos rfl]
        · rw[if_neg h2,if_neg h1,if_neg h1,if_neg h2]
def aAe(s s':qP):Prop:=(s.o.dst=none\/s'.o.dst=none\/s.o.dst≠s'.o.dst)/\∀x∈s.eff,∀y∈s'.eff,x.1≠y.1
theorem qP.comm{s s':qP}(h:aAe s s')(x:aJ×aH):s'.app (s.app x)=s.app (s'.app x):=by
  unfold qP.app;rw[VS h.1,GP _ _ _ h.2]
theorem LR(D:Nat->Bool)(s:qP):∀(l:List qP) (k:Nat) (x:aJ×aH),(∀j s',l[j]? =some s'->D (k+j)=true->aAe s s')->cY D k l (s.app x)=s.app (cY D k l x)
  | [],k,x,_=>rfl
  |s'::l,k,x,h=>by
    have ih:=λx=>LR D s l (k+1) x (λj s'' hj hD=>h (j+1) s'' (by simpa using hj) (by rw[show k+(j+1)=k+1+j by omega];exact hD));simp only[cY]
    split
    · rename_i hD
      rw[qP.comm (h 0 s' rfl hD),ih]
    · rw[ih]
theorem iF{D D':Nat->Bool}:∀(l:List qP) (k:Nat) (x:aJ×aH),(∀j,j<l.length->D (k+j)=D' (k+j))->cY D k l x=cY D' k l x
  | [],_,_,_=>rfl
  |s::l,k,x,h=>by
    simp only[cY];have h0:D k=D' k:=by simpa using h 0 zz
    rw[h0];exact iF l (k+1) _ λj hj=>by have:=h (j+1) (by simpa using hj);rw[show k+(j+1)=k+1+j by omega]at this;exact this
theorem tB(D:Nat->Bool){i:Nat}(hi:D i=false):∀(l:List qP) (k:Nat) (x:aJ×aH) (s:qP),k<=i->l[i-k]? =some s->(∀j s',i<k+j->l[j]? =some s'->D (k+j)=true->aAe s s')->cY (λj=>j==i||D j) k l x=s.app (cY D k l x)
  | [],k,x,s,_,h,_=>by simp at h
  |s'::l,k,x,s,hk,h,ha=>by
    simp only[cY]
    by_cases e:k=i
    · subst e
      simp only[aNt,aNw,Option.some.injEq]at h;subst h;simp only[beq_self_eq_true,Bool.true_or,if_true,hi,aNh,if_false];rw[iF (D':=D) l (k+1) _ (λj hj=>by
        have:¬(k+1+j=k):=z8
        simp[this])]
      exact LR D s' l (k+1) x (λj s'' hj hD=>ha (j+1) s'' z8 (by simpa using hj) (by rw[show k+(j+1)=k+1+j by omega];exact hD))
    · have hne:(k==i)=false:=by simp[e]
      simp only[hne,Bool.false_or];exact tB D hi l (k+1) _ s z8 (by rw[show i-k=(i- (k+1))+1 by omega,aM8]at h;exact h)
        (λj s'' hj hl hD=>ha (j+1) s'' z8 (by simpa using hl) (by rw[show k+(j+1)=k+1+j by omega];exact hD))
theorem yW{D D':Nat->Bool}{t:Nat}:∀(l:List qP) (k:Nat) (x x':aJ×aH),x.1 t=x'.1 t->(∀j s,l[j]? =some s->D (k+j)≠D' (k+j)->s.o.dst≠some t)->(cY D k l x).1 t=(cY D' k l x').1 t
  | [],_,_,_,h,_=>h
  |s::l,k,x,x',h,hd=>by
    simp only[cY];refine yW l (k+1) _ _ ?_ (λj s' hj hD=>hd (j+1) s' (by simpa using hj) (by rw[show k+(j+1)=k+1+j by omega];exact hD));have hsame:∀(x:aJ×aH),s.o.dst≠some t->(s.app x).1 t=x.1 t:=by
      intro x hne;unfold qP.app bT upd;cases hq:s.o.dst with
      |none=>rfl
      |some d=>
        have:t≠d:=by rintro rfl;exact hne hq
        simp only[if_neg this]
    have hboth:(s.app x).1 t=(s.app x').1 t:=by
      unfold qP.app bT upd;cases hq:s.o.dst with
      |none=>exact h
      |some d=>
        by_cases e:t=d
        · simp only[if_pos e]
        · simp only[if_neg e];exact h
    by_cases hD:D k=D' k
    · rw[<-hD]
      split
      · exact hboth
      · exact h
    · have hne:=hd 0 s rfl hD
      split<;>split
      · exact hboth
      · rw[hsame _ hne];exact h
      · rw[hsame _ hne];exact h
      · exact h
theorem tM(D:Nat->Bool):∀(l:List qP) (k:Nat) (x:aJ×aH),(cY D k l x).2.length=x.2.length
  | [],_,_=>rfl
  |s::l,k,x=>by
    simp only[cY];rw[tM D l]
    split
    · exact tT _ _
    · rfl
theorem yH{D D':Nat->Bool}{id:Nat}:∀(l:List qP) (k:Nat) (x x':aJ×aH),x.2.length=x'.2.length->x.2[id]? =x'.2[id]? ->(∀j s,l[j]? =some s->D (k+j)≠D' (k+j)->∀e∈s.eff,e.1≠id)->(cY D k l x).2[id]? =(cY D' k l x').2[id]?
  | [],_,_,_,_,h,_=>h
  |s::l,k,x,x',hl,h,hd=>by
    simp only[cY];have hll:(if D k then s.app x else x).2.length=(if D' k then s.app x' else x').2.length:=by
      have e1:∀y:aJ×aH,(s.app y).2.length=y.2.length:=λy=>tT _ _
      split<;>split<;>simp only[e1,hl]
    refine yH l (k+1) _ _ hll ?_ (λj s' hj hD=>hd (j+1) s' (by simpa using hj) (by rw[show k+(j+1)=k+1+j by omega];exact hD))
    by_cases hD:D k=D' k
    · rw[<-hD]
      split
      · exact tG _ _ _ _ hl h
      · exact h
    · have hne:=hd 0 s rfl hD
      have e1:∀y:aJ×aH,(s.app y).2[id]? =y.2[id]? :=λy=>zP _ _ _ hne
      split<;>split<;>simp only[e1,h]
def cZ(ops:Array Oper)(listed:Array Bool)(i:Nat):Bool:=
  !listed.getD i true&&((ops[i]?).map (·.after.all λe=> !Region.binds .any e||listed.getD e.on false)).getD false
def lH(ops:Array Oper):Nat->Nat->Array Bool->List Nat
  |0,_,_=> []
  |fuel+1,t,listed=>
    match((List.range ops.size).filter (cZ ops listed))[t%((List.range ops.size).filter (cZ ops listed)).length]? with
    |some i=>i::lH ops fuel (t/ ((List.range ops.size).filter (cZ ops listed)).length) (listed.setIfInBounds i true)
    |none=> []
theorem NH(ops:Array Oper):∀(fuel t:Nat) (listed:Array Bool) (acc:List Nat),Region.linearise.go .any ops fuel t listed acc=acc.reverse++lH ops fuel t listed
  |0,t,listed,acc=>by simp[Region.linearise.go,lH]
  |fuel+1,t,listed,acc=>by
    unfold Region.linearise.go lH;show(match((List.range ops.size).filter (cZ ops listed))[t%((List.range ops.size).filter (cZ ops listed)).length]? with
      |some i=>_
      |none=>_)=_
    split
    · rename_i i hi
      have:=NH ops fuel (t/ ((List.range ops.size).filter (cZ ops listed)).length) (listed.setIfInBounds i true) (i::acc);rw[show((i::acc).reverse++lH ops fuel (t/ ((List.range ops.size).filter (cZ ops listed)).length) (listed.setIfInBounds i true))=acc.reverse++i::lH ops fuel (t/ ((List.range ops.size).filter (cZ ops listed)).length) (listed.setIfInBounds i true)by simp]at this;exact this
    · simp
def iR(l:List Oper):Bool:=(l.zipIdx.all λ(o,i)=>o.after.toList.all λe=> !Region.binds .any e||decide (e.on<i))
theorem iL{l:List Oper}(h:iR l=true){i:Nat}{o:Oper}(ho:l[i]? =some o){e:Edge}(he:e∈o.after.toList)(hb:Region.binds .any e=true):e.on<i:=by
  unfold iR at h;rw[aNz]at h;have hm:(o,i)∈l.zipIdx:=by
    rw[List.mem_zipIdx_iff_getElem?];exact ho
  have:=h _ hm;simp only[aNz]at this;have:=this e he;rw[hb]at this;simpa using this
def mH(l:List Oper)(bm:List Nat):Bool:=
  l.zipIdx.all λ(o,j)=>l.zipIdx.all λ(o',i)=>
    !decide (i<j)||(bm.getD j 0).testBit i||
      (match o'.dst with
       |some d=> !(o.dst==some d)&& !(pX l o).contains d
       |none=>true)&&
      (match o.dst with
       |some d=> !(pX l o').contains d
       |none=>true)
theorem hP{l:List Oper}{bm:List Nat}(h:mH l bm=true){i j:Nat}(hij:i<j){o o':Oper}(ho':l[i]? =some o')(ho:l[j]? =some o)(hb:(bm.getD j 0).testBit i=false):(o'.dst=none\/o.dst=none\/o'.dst≠o.dst)/\(∀t∈pX l o,o'.dst≠some t)/\(∀t∈pX l o',o.dst≠some t):=by
  unfold mH at h;rw[aNz]at h;have h1:=h (o,j) (by rw[List.mem_zipIdx_iff_getElem?];exact ho);simp only[aNz]at h1;have h2:=h1 (o',i) (by rw[List.mem_zipIdx_iff_getElem?];exact ho');simp only[hij,decide_true,Bool.not_true,hb,Bool.false_or,aMj]at h2;obtain⟨h3,h4⟩:=h2;refine⟨?_, ?_, ?_⟩
  · cases hq:o'.dst with
    |none=>exact .inl rfl
    |some d=>
      rw[hq]at h3;simp only[aMj,aMk,beq_eq_false_iff_ne,ne_eq]at h3;exact .inr (.inr λe=>h3.1 e.symm)
  · intro t ht e
    rw[e]at h3;simp only[aMj,aMk]at h3;have:=h3.2;rw[List.contains_iff_mem.2 ht]at this;cases this
  · intro t ht e
    rw[e]at h4;simp only[aMk]at h4;rw[List.contains_iff_mem.2 ht]at h4;cases h4
end Go.Abs
