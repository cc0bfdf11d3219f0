/- Part 6 of a proof of the law ServerReference: Go data as trees, the walks of the functions that the law reaches, the plain laws. -/
import Derived.Test.YtndpndmhoheloaaGreatDoorGDServerReference
import Derived.RangeFuncNested
import Derived.RangeFuncCalls
import Derived.RangeFuncLeaves
import Derived.TacticsIn
import Derived.OwnWalkIn
import Derived.Recover
open List renaming all_eq_true->aNz,append_assoc->aOe,append_nil->aN9,cons_append->aMl,drop_eq_getElem_cons->aOi,getD_eq_getElem?_getD->aNj,getElem?_append_left->aM0,getElem?_eq_getElem->aNi,getElem?_eq_none->aM2,getElem?_set_ne->aM5,getElem?_set_self->aM4,getElem_map->aMm,length_append->aNo,length_cons->aM7,length_map->aMw,length_nil->aOa,length_take->aNe,map_cons->aNl,map_nil->aOb,mem_cons->aN2,mem_cons_of_mem->aOg,mem_map->aNy,mem_singleton->aN8,nil_append->aN7,not_mem_nil->aOc,take_length->aOj
open Nat renaming le_refl->aMq,le_trans->aMr,lt_or_ge->aMo,succ_ne_self->aOf,zero_add->aNn,zero_le->aNs
open Go.Sem renaming run_bind->aM9,run_pure->aNc
open Array renaming getD_eq_getD_getElem?->aMt,getElem?_eq_getElem->aMy,getElem?_eq_some_iff->aOk,getElem?_setIfInBounds_self_of_lt->aMu
open Bool renaming and_eq_true->aMj,eq_iff_iff->aN1,false_eq_true->aNh,not_false->aNx
open Option renaming bind_some->aM3,getD_some->aMz,isSome_some->aNv,map_some->aM6
open Go.Result renaming andThen_ok->aNa
set_option linter.unusedSectionVars false
set_option linter.unnecessarySimpa false
set_option linter.unusedVariables false
set_option linter.unusedSimpArgs false
namespace Go.Abs
open Go.Proofs Go.Memo
theorem BV{u:QK->St->qS gU}{act:List QK}(h:∀k st o st',u k st=some (o,st')->(∀q∈act,st'.res q=st.res q)/\st'.now=st.now/\st'.lc=st.lc/\st'.cell=st.cell):
  ∀(p:cR) (s s':xY×St) (o:Option QV),lL (mB u) p s=some (o,s')->(∀q∈act,s'.2.res q=s.2.res q)/\s'.2.now=s.2.now/\s'.2.lc=s.2.lc/\s'.2.cell=s.2.cell
 | .bad,s,s',o,e=>by simp[lL]at e
 | .ret v,s,s',o,e=>by
  simp only[lL]at e;injection e with e;injection e with e1 e2;subst e2;exact⟨λ_ _=>rfl,rfl,rfl,rfl⟩
 | .get k c,s,s',o,e=>by
  have hs:∀(o1:Option QV) (s1:xY×St),mB u k s=some (o1,s1)->(∀q∈act,s1.2.res q=s.2.res q)/\s1.2.now=s.2.now/\s1.2.lc=s.2.lc/\s1.2.cell=s.2.cell:=by
   intro o1 s1 e1;unfold mB at e1
   split at e1
   ·split at e1
    ·injection e1 with e1;injection e1 with e2 e3;subst e3;exact⟨λ_ _=>rfl,rfl,rfl,rfl⟩
    ·cases e1
   ·split at e1
    ·cases e1
    ·rename_i st1 h1;injection e1 with e1;injection e1 with e2 e3;subst e3;exact h _ _ _ _ h1
    ·rename_i r st1 h1
     split at e1
     ·injection e1 with e1;injection e1 with e2 e3;subst e3;exact h _ _ _ _ h1
     ·cases e1
  simp only[lL]at e
  split at e
  ·cases e
  ·rename_i s1 h1;injection e with e;injection e with e2 e3;subst e3;exact hs _ _ h1
  ·rename_i v s1 h1;obtain⟨a1,a2,a3,a4⟩:=hs _ _ h1;obtain⟨b1,b2,b3,b4⟩:=BV h (c v) s1 s' o e;exact⟨λq hq=>(b1 q hq).trans (a1 q hq),b2.trans a2,b3.trans a3,b4.trans a4⟩
theorem pU{u:QK->St->qS gU}{act:List QK}{k:QK}(h:∀q st o st',u q st=some (o,st')->(∀q∈k::act,st'.res q=st.res q)/\st'.now=st.now/\st'.lc=st.lc/\st'.cell=st.cell)(hk:k∉act)
  {stp:Int->Bool} {cp:QK->cR} {st st':St} {o:Option gU} (e:oI u stp cp k st=some (o,st')):(∀q∈act,st'.res q=st.res q)/\st'.now=st.now/\st'.lc=st.lc/\st'.cell=st.cell/\∀r,o=some r->st'.res k=some r/\r.v=st'.now:=by
 unfold oI at e
 split at e
 ·injection e with e;injection e with e1 e2;subst e2;subst e1;exact⟨λ_ _=>rfl,rfl,rfl,rfl,λr h=>by cases h⟩
 ·split at e
  ·cases e
  ·rename_i s h1;injection e with e;injection e with e1 e2;subst e1;subst e2;obtain⟨a1,a2,a3,a4⟩:=BV h _ _ _ _ h1;exact⟨λq hq=>a1 q (aOg _ hq),a2,a3,a4,λr h=>by cases h⟩
  ·rename_i v s h1
   split at e
   ·injection e with e;injection e with e1 e2;obtain⟨a1,a2,a3,a4⟩:=BV h _ _ _ _ h1;subst e1;subst e2;refine⟨λq hq=> ?_,a2,a3,a4,λr h=> ?_⟩
    ·simp only[eQ];rw[if_neg (λh:q=k=>hk (h▸hq))];exact a1 q (aOg _ hq)
    ·injection h with h;subst h;exact⟨by simp[eQ],a2.symm⟩
   ·cases e
theorem RM(u:QK->St->qS gU)(stp:Int->Bool)(cp:QK->cR)(k:QK)(st:St):LV u stp cp k st=match st.res k with
  |none=>oI u stp cp k st
  |some r=>match LP u r st with
   |none=>none
   |some (none,st')=>some (none,st')
   |some (some true,st')=>Memo.keep k r st'
   |some (some false,st')=>oI u stp cp k st':=by
 unfold LV;cases st.res k with
 |none=>rfl
 |some r=>
  simp only[LP]
  split
  ·rfl
  ·cases FY u r.v r.deps st with
   |none=>rfl
   |some x=>
    obtain⟨o,s⟩:=x;cases o with
    |none=>rfl
    |some b=>cases b<;>rfl
theorem uF{u:List QK->QK->St->qS gU}(hu:TC u){act:List QK}{r:gU}{st st':St}{o:Option Bool}(e:LP (u act) r st=some (o,st')):(∀q∈act,st'.res q=st.res q)/\st'.now=st.now/\st'.lc=st.lc/\st'.cell=st.cell:=by
 unfold LP at e
 split at e
 ·injection e with e;injection e with e1 e2;subst e2;exact⟨λ_ _=>rfl,rfl,rfl,rfl⟩
 ·split at e
  ·cases e
  ·rename_i h1;injection e with e;injection e with e2 e3;subst e3;exact DK hu _ h1
  ·rename_i h1;injection e with e;injection e with e2 e3;subst e3;exact DK hu _ h1
theorem VI{u:List QK->QK->St->qS gU}(hu:TC u){act:List QK}{k:QK}(hk:k∉act){stp:Int->Bool}{cp:QK->cR}{st st':St}{o:Option gU}(e:LV (u (k::act)) stp cp k st=some (o,st')):
  (∀q∈act,st'.res q=st.res q)/\(∀r,o=some r->st'.res k=some r)/\st'.now=st.now/\st'.lc=st.lc/\st'.cell=st.cell:=by
 have H:∀q st o st',u (k::act) q st=some (o,st')->(∀q∈k::act,st'.res q=st.res q)/\st'.now=st.now/\st'.lc=st.lc/\st'.cell=st.cell:=λq st o st' h=>⟨hu.keep _ _ _ _ _ h,hu.same _ _ _ _ _ h⟩;rw[RM]at e
 split at e
 ·obtain⟨a1,a2,a3,a4,a5⟩:=pU H hk e;exact⟨a1,λr h=>(a5 r h).1,a2,a3,a4⟩
 ·rename_i r0 hr
  split at e
  ·cases e
  ·rename_i h1;injection e with e;injection e with e1 e2;subst e1;subst e2;obtain⟨a1,a2⟩:=uF hu h1;exact⟨λq hq=>a1 q (aOg _ hq),λr h=>by(cases h),a2⟩
  ·rename_i s1 h1;obtain⟨a1,a2⟩:=uF hu h1;unfold Memo.keep at e;injection e with e;injection e with e1 e2;subst e1;subst e2;refine⟨λq hq=> ?_,λr h=> ?_,a2⟩
   ·simp only[eQ];rw[if_neg (λh:q=k=>hk (h▸hq))];exact a1 q (aOg _ hq)
   ·injection h with h;subst h;simp[eQ]
  ·rename_i s1 h1;obtain⟨a1,a2,a3,a4⟩:=uF hu h1;obtain⟨b1,b2,b3,b4,b5⟩:=pU H hk e;exact⟨λq hq=>(b1 q hq).trans (a1 q (aOg _ hq)),λr h=>(b5 r h).1,b2.trans a2,b3.trans a3,b4.trans a4⟩
theorem HT(stp:Int->Bool)(cp:QK->cR):∀n,TC λact k st=>Memo.upd stp cp n act k st
 |0=>⟨λ_ _ _ _ _ h=>by(simp[Memo.upd]at h),λ_ _ _ _ _ h=>by(simp[Memo.upd]at h),λ_ _ _ _ _ h=>by(simp[Memo.upd]at h)⟩
 |n+1=>by
  have ih:=HT stp cp n;have A:∀act k st o st',Memo.upd stp cp (n+1) act k st=some (o,st')->(∀q∈act,st'.res q=st.res q)/\(∀r,o=some r->st'.res k=some r)/\st'.now=st.now/\st'.lc=st.lc/\st'.cell=st.cell:=by
   intro act k st o st' h;rw[Memo.upd]at h
   split at h
   ·cases h
   ·rename_i hk;obtain⟨⟨o1,s1⟩,h9,e⟩:=Option.map_eq_some_iff.1 h;simp only[Prod.mk.injEq]at e;obtain⟨rfl,rfl⟩:=e;have:=VI (u:=λact k st=>Memo.upd stp cp n act k st) ih hk h9;cases o1 with
    |none=>exact this
    |some r=>exact this
  exact⟨λact k st o st' h=>(A act k st o st' h).1,λact k st r st' h=>(A act k st _ st' h).2.1 r rfl,λact k st o st' h=>(A act k st o st' h).2.2⟩
section
variable{cx:Cx}(hx:oA cx){loc:QK->Nat}{act act':List QK}{st st':St}{b:Bool}{G:eL}{H H':aH}
include hx
theorem WR.upd(h:WR cx loc act st b G H)(hl:H'.length=H.length)(hD:∀F,sR cx.ix loc act st F H->sR cx.ix loc act' st' F H'/\∀id,¬F id->H'[id]? =H[id]?):WR cx loc act' st' b G H'/\dE G G H H':=by
 obtain⟨F,h1,h2,h3,rfl,h4⟩:=h;obtain⟨d1,d2⟩:=hD F h1;refine⟨⟨F,d1,hx.istab b H H' h2 λid hi=>d2 id λhf=>h3 id hf hi,h3,rfl,λe he=>⟨?_,(h4 e he).2⟩⟩,by rw[hl];exact aMq _,λid _ hn=>d2 id λhf=>hn (.inl hf),λid hi _=>hi⟩;rw[d2 e.1 (h4 e he).2.1];exact(h4 e he).1
end
theorem VQ(f:QK->Option gU)(k:QK)(r r':Option gU):eQ (eQ f k r) k r'=eQ f k r':=by
 funext q;simp only[eQ];split<;>rfl
theorem FK{f:QK->Option gU}{k:QK}{r:Option gU}(h:f k=r):eQ f k r=f:=by
 funext q;simp only[eQ];split
 ·rename_i e;rw[e,h]
 ·rfl
theorem TL{P:Program}{N nb:Nat}{Q Q0:cT}{x c y:Code}{T:aJ}{H:aH}{σ:Type}(rep:σ->List (Nat×PV))(I:σ->aH->Prop)
  (hx:fO P N nb x (bQ (fO P N nb c (bQ (λT' H'=>∃s,oH T' (rep s)/\I s H') Q)) (bQ (λT' H'=>∃s,oH T' (rep s)/\I s H') Q)) T H)
  (hy:∀s H',I s H'->fO P N nb y Q0 (gM (rep s)) H'):fO P N nb x (bQ (fO P N nb c (bQ (fO P N nb y Q0) Q)) (bQ (fO P N nb y Q0) Q)) T H:=by
 have hm:∀e T' H',bQ (λT' H'=>∃s,oH T' (rep s)/\I s H') Q e T' H'->bQ (fO P N nb y Q0) Q e T' H':=by
  intro e T' H' he;cases e with
  |normal=>
   obtain⟨s,h1,h2⟩:=he;exact eG (cO h1) (hy s H' h2)
  |_=>exact he
 refine hx.mono λe T' H' he=> ?_;cases e with
 |normal=>exact fO.mono he hm
 |_=>exact he
theorem sR.done{ix:Ids}{loc:QK->Nat}{act:List QK}{st:St}{F:eL}{H:aH}{k:QK}(D:sR ix loc (k::act) st F H)(hk:k∉act){rec:gU}(hr:st.res k=some rec)(n:Nat)(tl:bE)(lu clock:Int)(hr0:H[loc k]? =some (.row (oR rec tl lu)))(hck:clock=wrap64 ((st.clk+1:Nat):Int)){aes:List GE}{aclk:Nat}(ha:H[ix.a]? =some (.obj (.mapg aes aclk))):
  sR ix loc act {st with res:=eQ st.res k (some {rec with v:=n}),clk:=st.clk+1} F ((((H.set (loc k) (.row (oR {rec with v:=n} tl lu))).set ix.d (.row [ix.cf, .optr ix.s 0, .mapp ix.m, .mapp ix.a,ix.stp,aE st.comps,aE clock])).set (loc k) (.row (oR {rec with v:=n} tl clock))).set ix.a (.obj (.mapg (uU aes k) aclk)))/\
  ∀id,¬F id->((((H.set (loc k) (.row (oR {rec with v:=n} tl lu))).set ix.d (.row [ix.cf, .optr ix.s 0, .mapp ix.m, .mapp ix.a,ix.stp,aE st.comps,aE clock])).set (loc k) (.row (oR {rec with v:=n} tl clock))).set ix.a (.obj (.mapg (uU aes k) aclk)))[id]? =H[id]? :=by
 obtain⟨_,r2,r3,r4,r5,r6,r7,_⟩:=D.recs k rec hr;obtain⟨o1,o2,o3,o4,o5⟩:=D.own;obtain⟨n1,n2,n3,n4,_⟩:=D.ne;have D1:=D.recrow hr (r':= {rec with v:=n}) tl lu rfl rfl rfl (D.lus k rec tl lu hr hr0);have D2:=D1.dbrow ix.stp st.comps clock (st.clk+1) (Nat.le_succ _) hck;have D3:=D2.recrow (k:=k) (r:= {rec with v:=n}) (r':= {rec with v:=n}) (by simp[eQ]) tl clock rfl rfl rfl ⟨st.clk+1,aMq _,hck⟩;have D4:=D3.unmark hk (es:=aes) (clk:=aclk) (bN (bN (bN ha (Ne.symm r7)) (Ne.symm n4)) (Ne.symm r7));refine⟨?_,λid hn=> ?_⟩
 ·simp only[VQ]at D4;exact D4
 ·rw[aM5 (by rintro rfl;exact hn o5),aM5 (by rintro rfl;exact hn r2),aM5 (by rintro rfl;exact hn o1),aM5 (by rintro rfl;exact hn r2)]
end Go.Abs
set_option maxRecDepth 4000
set_option maxHeartbeats 1000000
namespace Go.Abs
open Go.Proofs Go.Memo
theorem TW{cx:Cx}(hx:oA cx){u:List QK->QK->St->qS gU}(hu:TC u)(hU:IW cx u)(act:List QK)(k:QK)(hk:k.1≠0)(hka:k∉act)(loc:QK->Nat)(st:St)(G:eL)(H:aH)(o:Option gU)(st':St)(hm:LV (u (k::act)) cx.stpf cx.cp k st=some (o,st'))(hW:WR cx loc act st false G H):XW cx 107 [.optr cx.ix.d 0,dQ k] act loc G H o (aFi o st') λ_ loc'=>.optr (loc' k) 0:=by
 obtain⟨k1,k2,k3⟩:=k;rw[RM]at hm;refine iY (N:=65) Tryz.func107 rfl rfl zz λhb'=> ?_;refine aV (cF iB aA aD aB aC bG) ?_;refine dI (λH1=>WR cx loc act st false G H1/\dE G G H H1/\H1[H.length]? =some (.row [aE k1,aE k2,aE k3])) ⟨hW.app hx _,dE.app _ _ _ (hW.lt hx),zz⟩ ?_;rintro H1 ⟨W1,f1,b1⟩;obtain⟨F1,D1,_⟩:=id W1;obtain⟨clock1,hd1⟩:=D1.db;obtain⟨aes,aclk,ha1,hagn,hagg⟩:=D1.acts;have b1L:=bU b1;have gA:oD false (.int .i64 0) (gP aes (k1,k2,k3))= .int .i64 0:=by rw[hagg,if_neg hka];rfl
 have va1:(cx.ix.a=H1.length)=False:=by have:=lG ha1;simp;omega
 ·
  repeat refine wS ?_
  refine eJ (by kernel_rfl) ?_;refine iI (aG y3 iB y88 rK aA aD (aG aB aC bG b1 b1L hd1 (cF ha1 gA fJ oF @nD va1))) ?_;refine pJ (aG aA aD aB aC bG b1 (aG b1L hd1 ha1 gA fJ oF (aS @nD va1))) ?_
  repeat refine wS ?_
  refine wK ?_
  repeat refine wS ?_
  refine iU 0 (n0:=H1.length) (by first|rfl| (simp only[aNo,aM7,aOa,Nat.reduceAdd,aNn,dQ,b1,b1L,hd1,ha1,gA,cD,dG,aNv,va1];done)) (by kernel_rfl) ?_;refine eP 5 (by first|rfl| (simp only[aNo,aM7,aOa,Nat.reduceAdd,aNn,dQ,b1,b1L,hd1,ha1,gA,cD,dG,aNv,va1];done)) (DQ (aG y3 iB y88 rK aA aD (aG aB aC bG b1 b1L hd1 (cF ha1 gA fJ oF @nD va1)))) z7 z7 z7 ?_;refine mR (by first| (simp only[LS,HS,aOe,aMl,aN7,dQ,b1,b1L,hd1,ha1,gA,cD,dG,aNv,va1]<;>with_reducible rfl)|rfl) ?_;refine iO (bm:= [0,1,3,7,0,31]) (fresh:=(H1.length)) (by kernel_rfl) (JW (aG y3 y88 aA aD aB aC (aG bG b1 b1L hd1 ha1 gA (bD fJ oF @nD va1)))) z7 (by repeat (first|exact fT.base _|with_reducible apply fT.keep|apply fT.drop)) ?_;refine dI (λH2=>WR cx loc ((k1,k2,k3)::act) st false G H2/\dE G G H H2/\H2[H.length]? =some (.row [aE k1,aE k2,aE k3])) ?_ ?_
  ·obtain⟨w2,f2⟩:=W1.upd hx (act':=(k1,k2,k3)::act) (st':=st) (H':=H1.set cx.ix.a (.obj (.mapg (sE aes aclk (k1,k2,k3) (aE 1)) (vS aes aclk (k1,k2,k3))))) zz λF D=>⟨D.mark ha1 _,λid hn=>aM5 (by rintro rfl;exact hn D.own.2.2.2.2)⟩;exact⟨w2,f1.trans f2,bN b1 (by rintro e;have:=hW.lt hx cx.ix.a (by obtain⟨F,D,_,_,rfl,_⟩:=hW;exact .inl D.own.2.2.2.2);omega)⟩
  rintro H2 ⟨W2,f2,b2⟩;have nbG:¬G H.length:=λh=>by have:=hW.lt hx _ h;omega
  obtain⟨F2,D2,_⟩:=id W2;obtain⟨clock2,hd2⟩:=D2.db;obtain⟨es,clk,hm2,hgn,hgg⟩:=D2.res;have b2L:=bU b2
  ·
   repeat refine wS ?_
   refine eJ (by kernel_rfl) ?_;refine iI (aG iB VU rK fM aA aD (aG aB aC bG b1 b1L hd1 (aG ha1 gA fJ oF @nD va1 (bD b2 b2L hd2 hm2)))) ?_;refine gQ [0,3,5] (aG aA aD aB aC bG b1 (aG b1L hd1 ha1 gA fJ oF (cF @nD va1 b2 b2L hd2 hm2))) ?_
   repeat refine wS ?_
   refine TL (σ:=gU×St×(QK->Nat)×eL) (λ(z:gU×St×(QK->Nat)×eL)=> [(0, .optr cx.ix.d 0),(3, .optr H.length 0),(5, .optr (z.2.2.1 (k1,k2,k3)) 0)]) (λ(z:gU×St×(QK->Nat)×eL)=>λH5=>z.2.1.res (k1,k2,k3)=some z.1/\WR cx z.2.2.1 ((k1,k2,k3)::act) z.2.1 false z.2.2.2 H5/\dE G z.2.2.2 H H5/\(∀q∈act,z.2.2.1 q=loc q)/\(H5[H.length]? =some (.row [aE k1,aE k2,aE k3])/\¬z.2.2.2 H.length)/\o=some {z.1 with v:=z.2.1.now}/\st'= {z.2.1 with res:=eQ z.2.1.res (k1,k2,k3) (some {z.1 with v:=z.2.1.now})}) ?_ ?_
   ·
    rcases hold:st.res (k1,k2,k3)with _|old
    ·
     rw[hold]at hm;simp only at hm;have gE:oD false .nilp (gP es (k1,k2,k3))= .nilp:=by rw[hgg,hold];rfl
     refine eA 5 (aG fM aA aD aB aC bG (aG b1 b1L hd1 ha1 gA fJ (aG oF @nD va1 b2 b2L hd2 (aS hm2 gE)))) ?_;refine yO (bP eO) ?_;refine bH (aG aA aD aB aC bG b1 (aG b1L hd1 ha1 gA fJ oF (aG @nD va1 b2 b2L hd2 hm2 gE))) ?_;refine VV (aG aA aD aB aC bG b1 (aG b1L hd1 ha1 gA fJ oF (aG @nD va1 b2 b2L hd2 hm2 gE))) ?_;refine eA 2 (aG iB aA aD aB aC bG (aG b1 b1L hd1 ha1 gA fJ (aG oF @nD va1 b2 b2L hd2 (aS hm2 gE)))) ?_;refine gN (dW (aG aA aD aB aC bG b1 (aG b1L hd1 ha1 gA fJ oF (aG @nD va1 b2 b2L hd2 hm2 gE)))) (bP (aG aA aD aB aC bG b1 (aG b1L hd1 ha1 gA fJ oF (aG @nD va1 b2 b2L hd2 hm2 gE)))) z7 aAi (zF hx hu hU act (k1,k2,k3) hk hka loc st G H2 o st' hm W2) ?_ (λHP ⟨ho,loc',act',G',w',f'⟩=>by subst ho;exact Or.inr ⟨rfl,rfl,loc',act',G',w',f2.trans f'⟩);rintro rv H1 ⟨rec,loc2,G2,rfl,rfl,w2,g2,l2⟩;obtain⟨_,hnow,_,_,hrc⟩:=pU (u:=u ((k1,k2,k3)::act)) (λq s o1 s1 h=>⟨hu.keep _ _ _ _ _ h,hu.same _ _ _ _ _ h⟩) hka hm;obtain⟨hrk,hrv⟩:=hrc _ rfl;refine bH (aG aA aD aB aC bG b1 (aG b1L hd1 ha1 gA fJ oF (aG @nD va1 b2 b2L hd2 hm2 gE))) ?_;exact⟨(rec,st',loc2,G2),by repeat (first|exact trivial|refine⟨rfl, ?_⟩),hrk,w2,f2.trans g2,l2,g2.get b2 nbG,by rw[<-hrv],by rw[<-hrv,FK hrk]⟩
    ·
     rw[hold]at hm;simp only at hm;have gE:oD false .nilp (gP es (k1,k2,k3))= .optr (loc (k1,k2,k3)) 0:=by rw[hgg,hold];rfl
     obtain⟨o1,st1,hv1⟩:∃o1 st1,LP (u ((k1,k2,k3)::act)) old st=some (o1,st1):=by
      cases hv:LP (u ((k1,k2,k3)::act)) old st with
      |none=>rw[hv]at hm;cases hm
      |some x=>exact⟨x.1,x.2,rfl⟩
     rw[hv1]at hm;obtain⟨vk1,vk2,vk3,vk4⟩:=uF hu hv1;refine eA 5 (aG fM aA aD aB aC bG (aG b1 b1L hd1 ha1 gA fJ (aG oF @nD va1 b2 b2L hd2 (aS hm2 gE)))) ?_;refine gN (dW (aG aA aD aB aC bG b1 (aG b1L hd1 ha1 gA fJ oF (aG @nD va1 b2 b2L hd2 hm2 gE)))) (bP (aG aA aD aB aC bG b1 (aG b1L hd1 ha1 gA fJ oF (aG @nD va1 b2 b2L hd2 hm2 gE)))) z7 aFz (aB1 hx hu hU ((k1,k2,k3)::act) loc st G H2 (k1,k2,k3) old hold zz o1 st1 hv1 W2) ?_ (λHP ⟨ho,loc',act',G',w',f'⟩=>by rw[ho]at hm;injection hm with hm;injection hm with h1 h2;subst h1;subst h2;exact Or.inr ⟨rfl,rfl,loc',act',G',w',f2.trans f'⟩);rintro rv H2 ⟨b,loc2,G2,ho1,rfl,w2,g2,l2⟩;rw[ho1]at hm;obtain⟨b2',nb2'⟩:=g2.get b2 nbG;refine bH (aG aA aD aB aC bG b1 (aG b1L hd1 ha1 gA fJ oF (aG @nD va1 b2 b2L hd2 hm2 (aS gE b2')))) ?_;refine gG (aG aA aD aB aC bG b1 (aG b1L hd1 ha1 gA fJ oF (aG @nD va1 b2 b2L hd2 hm2 (aS gE b2')))) (λbt33=> ?_) (λbt33=> ?_)
     ·
      have hb:b=false:=by simpa using bt33
      rw[hb]at hm;simp only at hm;refine eA 2 (aG iB aA aD aB aC bG (aG b1 b1L hd1 ha1 gA fJ (aG oF @nD va1 b2 b2L hd2 (bR hm2 gE b2')))) ?_;refine gN (dW (aG aA aD aB aC bG b1 (aG b1L hd1 ha1 gA fJ oF (aG @nD va1 b2 b2L hd2 hm2 (aS gE b2'))))) (bP (aG aA aD aB aC bG b1 (aG b1L hd1 ha1 gA fJ oF (aG @nD va1 b2 b2L hd2 hm2 (aS gE b2'))))) z7 aAi (zF hx hu hU act (k1,k2,k3) hk hka loc2 st1 G2 _ o st' hm w2) ?_ (λHP ⟨ho,loc',act',G',w',f'⟩=>by subst ho;exact Or.inr ⟨rfl,rfl,loc',act',G',w',(f2.trans g2).trans f'⟩);rintro rv H3 ⟨rec,loc3,G3,rfl,rfl,w3,g3,l3⟩;obtain⟨_,hnow,_,_,hrc⟩:=pU (u:=u ((k1,k2,k3)::act)) (λq s o1 s1 h=>⟨hu.keep _ _ _ _ _ h,hu.same _ _ _ _ _ h⟩) hka hm;obtain⟨hrk,hrv⟩:=hrc _ rfl;refine bH (aG aA aD aB aC bG b1 (aG b1L hd1 ha1 gA fJ oF (aG @nD va1 b2 b2L hd2 hm2 (aS gE b2')))) ?_;exact⟨(rec,st',loc3,G3),by repeat (first|exact trivial|refine⟨rfl, ?_⟩),hrk,w3,(f2.trans g2).trans g3,λq hq=>(l3 q hq).trans (l2 q (aOg _ hq)),g3.get b2' nb2',by rw[<-hrv],by rw[<-hrv,FK hrk]⟩
     ·
      have hb:b=true:=by simpa using bt33
      rw[hb]at hm;simp only[Memo.keep]at hm;injection hm with hm;injection hm with hm1 hm2;subst hm1;subst hm2
      repeat refine wS ?_
      refine wK ?_;exact⟨(old,st1,loc2,G2),⟨rfl,rfl,congrArg (PV.optr · 0) (l2 (k1,k2,k3) zz).symm,trivial⟩,(vk1 _ zz).trans hold,w2,f2.trans g2,λq hq=>l2 q (aOg _ hq),⟨b2',nb2'⟩,rfl,rfl⟩
   ·intro z H5 hg;obtain⟨rec,st5,loc5,G5⟩:=z;obtain⟨hr,W5,f5,l5,⟨b5,nb5⟩,ho,hst⟩:=hg;simp only at hr W5 f5 l5 ho hst nb5;obtain⟨F5,D5,_,_,hG5,_⟩:=id W5;obtain⟨clock5,hd5⟩:=D5.db;have hsto5:=D5.sto;obtain⟨aes5,aclk5,ha5,_⟩:=D5.acts;obtain⟨⟨tl,lu,hr5⟩,r2,r3,r4,r5,r6,r7,_⟩:=D5.recs _ _ hr;have hr5':=hr5;simp only[oR]at hr5;have hck:IntKind.i64.wrap (clock5+1)=wrap64 ((st5.clk+1:Nat):Int):=by rw[D5.clk _ hd5,dD];unfold wrap64;omega
    obtain⟨o1,o2,o3,o4,o5⟩:=D5.own;obtain⟨n1,n2,n3,n4,n5,n6,n7,n8,n9,n10⟩:=D5.ne;have v1:(loc5 (k1,k2,k3)=H5.length)=False:=by have:=D5.lt _ r2;simp;omega
    have v2:(cx.ix.d=H5.length)=False:=by have:=D5.lt _ o1;simp;omega
    have nb:∀id,F5 id->H.length≠id:=λid hf e=>nb5 (by rw[hG5];exact .inl (e▸hf));have c1:∀o,(H5.set (loc5 (k1,k2,k3)) o)[cx.ix.d]? =_:=λo=>bN hd5 (Ne.symm r3);have c2:∀o o2,((H5.set (loc5 (k1,k2,k3)) o).set cx.ix.d o2)[cx.ix.d]? =some o2:=λo o2=>aM4 (by simpa using D5.lt _ o1);have c3:∀o o2,((H5.set (loc5 (k1,k2,k3)) o).set cx.ix.d o2)[loc5 (k1,k2,k3)]? =some o:=λo o2=>bN (aM4 (D5.lt _ r2)) r3;have c4:∀o o2 o3,(((H5.set (loc5 (k1,k2,k3)) o).set cx.ix.d o2).set (loc5 (k1,k2,k3)) o3)[cx.ix.d]? =some o2:=λo o2 o3=>bN (c2 o o2) (Ne.symm r3);have c5:∀o o2 o3,(((H5.set (loc5 (k1,k2,k3)) o).set cx.ix.d o2).set (loc5 (k1,k2,k3)) o3)[H.length]? =_:=λo o2 o3=>bN (bN (bN b5 (nb _ r2)) (nb _ o1)) (nb _ r2);have c6:∀o o2,((H5.set (loc5 (k1,k2,k3)) o).set cx.ix.d o2)[H.length]? =_:=λo o2=>bN (bN b5 (nb _ r2)) (nb _ o1);have c7:∀o o2 o3,(((H5.set (loc5 (k1,k2,k3)) o).set cx.ix.d o2).set (loc5 (k1,k2,k3)) o3)[cx.ix.a]? =_:=λo o2 o3=>bN (bN (bN ha5 (Ne.symm r7)) (Ne.symm n4)) (Ne.symm r7);refine eA 5 (aG y85 rK aA aD aB aC (aG bG b1 b1L hd1 ha1 gA (aG fJ oF @nD va1 b2 b2L (aG hd2 hm2 v1 v2 @RJ b5 (aG hd5 hr5 ha5 c1 c2 c3 (bD c4 c5 c6 c7)))))) ?_;refine qT (aG aA aD aB aC bG b1 (aG b1L hd1 ha1 gA fJ oF (aG @nD va1 b2 b2L hd2 hm2 (aG v1 v2 @RJ b5 hd5 hr5 (aG ha5 c1 c2 c3 c4 c5 (aS c6 c7)))))) PN (wE hsto5) ?_;refine bH (aG y3 pO aA aD aB aC (aG bG b1 b1L hd1 ha1 gA (aG fJ oF @nD va1 b2 b2L (aG hd2 hm2 v1 v2 @RJ b5 (aG hd5 hr5 ha5 c1 c2 c3 (bD c4 c5 c6 c7)))))) ?_;refine aV (aG y3 rK aA aD aB aC (aG bG b1 b1L hd1 ha1 gA (aG fJ oF @nD va1 b2 b2L (aG hd2 hm2 v1 v2 @RJ b5 (aG hd5 hr5 ha5 c1 c2 c3 (bD c4 c5 c6 c7)))))) ?_;refine gQ [0,3,5] (aG aA aD aB aC bG b1 (aG b1L hd1 ha1 gA fJ oF (aG @nD va1 b2 b2L hd2 hm2 (aG v1 v2 @RJ b5 hd5 hr5 (aG ha5 c1 c2 c3 c4 c5 (aS c6 c7)))))) ?_;refine aV (aG y3 rK pO aA aD aB (aG aC bG b1 b1L hd1 ha1 (aG gA fJ oF @nD va1 b2 (aG b2L hd2 hm2 v1 v2 @RJ (aG b5 hd5 hr5 ha5 c1 c2 (bL c3 c4 c5 c6 c7)))))) ?_
    repeat refine wS ?_
    refine dV 0 (by kernel_rfl) ?_;refine eZ 5 (bm:= [0,1,3,7,0,31]) (by kernel_rfl) z7 (by kernel_rfl) (by kernel_rfl) ?_;refine iI (aG y3 iB y88 rK aA aD (aG aB aC oF hd5 b5 c1 (aG c2 c3 c4 c5 c6 c7 @nD))) ?_;refine gJ (k:=5) (bm:= [0,1,3,7,0,31]) (by kernel_rfl) rfl (by kernel_rfl) (by kernel_rfl) ?_;refine MV rfl (bP (aG aA aD aB aC oF hd5 (aG b5 c1 c2 c3 c4 c5 (bR c6 c7 @nD)))) z7 (by simp[aDw]) (DT (aG aA aD aB aC oF hd5 (aG b5 c1 c2 c3 c4 c5 (bR c6 c7 @nD)))) (DT (aG aA aD aB aC oF hd5 (aG b5 c1 c2 c3 c4 c5 (bR c6 c7 @nD)))) (c7 _ _ _) ?_;refine oN ?_;show iP _ _ _ _ _ _ _ _;refine eV ?_;refine aV (aG aA aD aB aC bG b1 (aG b1L hd1 ha1 gA fJ oF (aG @nD va1 b2 b2L hd2 hm2 (aG v1 v2 @RJ b5 hd5 hr5 (aG ha5 c1 c2 c3 c4 c5 (aS c6 c7)))))) ?_
    repeat refine wS ?_
    refine wT (Or.inl ⟨.inr rfl,_,rfl, ?_⟩);obtain⟨w6,f6⟩:=W5.upd hx (act':=act) (st':= {st5 with res:=eQ st5.res (k1,k2,k3) (some {rec with v:=st5.now}),clk:=st5.clk+1}) (H':=_) zz λF D=>D.done hka hr st5.now tl lu _ hr5' hck ha5;rw[ho,hst];exact⟨_,loc5,G5,rfl,rfl,w6,f5.trans f6,l5⟩
theorem aEd{cx:Cx}(hx:oA cx):∀n,IW cx λact k st=>Memo.upd cx.stpf cx.cp n act k st
 |0=>λ_ _ _ _ _ _ _ _ _ h=>by(simp[Memo.upd]at h)
 |n+1=>λact k loc st G H o st' hk h hW=>by
  simp only[Memo.upd]at h
  split at h
  ·cases h
  ·rename_i hka;obtain⟨⟨o1,s1⟩,h9,e⟩:=Option.map_eq_some_iff.1 h;simp only[Prod.mk.injEq]at e;obtain⟨rfl,rfl⟩:=e;exact TW hx (HT cx.stpf cx.cp n) (aEd hx n) act k hk hka loc st G H o1 s1 h9 hW
end Go.Abs
namespace Go.Abs
open Go.RowKit
def nB(a:Act):Act:= {a with defers:= []}
section
variable{P:Program}{N n:Nat}{F:Fence}{K:Exit->Act->World->Prop}{ops:Array Oper}
def X(F:Fence)(n:Nat)(P:Program)(N:Nat)(ds:List Deferred)(C:aK->Prop)(K:Exit->Act->World->Prop)(c:Code)(T:aJ)(H:aH):Prop:=
 ∀(E:aK) (a:Act),C E->E.Ok->E.H=H->eR E.view N (nB a) T->a.defers=ds->c.wpIn F n P K a E.w
variable{ds:List Deferred}{C:aK->Prop}{T:aJ}{H:aH}
end
end Go.Abs
namespace Go.Abs
def wP(ds:List Deferred)(a:Act):Act:= {a with defers:=a.defers++ds}
theorem GG(ds:List Deferred)(a:Act):(wP ds a).eval=a.eval:=by funext x;cases x<;>rfl
theorem rB(ds:List Deferred)(a:Act)(d:Option Nat)(v:Value):(wP ds a).put d v=wP ds (a.put d v):=by cases d<;>rfl
theorem QB{a:Act}{ds:List Deferred}(h:a.defers=ds):wP ds (nB a)=a:=by subst h;rfl
theorem xL{Q:Exit->Act->World->Prop}{ds:List Deferred}(h:LetsOut Q):LetsOut (λe a' w'=>∃a0,a'=wP ds a0/\Q e a0 w'):=by
 obtain⟨a,w,h⟩:=h;exact⟨_,w,a,rfl,h⟩
theorem VP{P:Program}{o:Oper}{a:Act}{next next':Act->World->Prop}{Q:Exit->Act->World->Prop}{ds:List Deferred}(hn:∀a w,next a w->next' (wP ds a) w){r:Result Next}(h:o.upon P a next Q r):o.upon P (wP ds a) next' (λe a' w'=>∃a0,a'=wP ds a0/\Q e a0 w') r:=by
 unfold Oper.upon at h⊢
 split at h
 ·rw[rB];exact hn _ _ h
 ·rw[rB];exact hn _ _ h
 ·have:=hn _ _ h;rw[<-rB]at this;exact this
 ·refine Calls.mono h ?_;intro e w' he;cases e with
  |returned v=>simp only at he⊢;rw[rB];exact hn _ _ he
  |panicked chain=>exact⟨a,rfl,he⟩
  |outgrown=>exact xL he
 ·refine Rows.mono h ?_;intro v w' he;rw[rB];exact hn _ _ he
 ·exact⟨a,rfl,h⟩
 ·exact h.elim
theorem tQ{P:Program}{ops:Array Oper}{Q:Exit->Act->World->Prop}(ds:List Deferred):∀(l:List Oper) (a:Act) (w:World),wpList P ops Q l a w->wpList P ops (λe a' w'=>∃a0,a'=wP ds a0/\Q e a0 w') l (wP ds a) w
 | [],a,w,h=>⟨a,rfl,h⟩
 |o::l,a,w,h=>by
  unfold wpList at h⊢;show if Region.wanted o (yielded ops a.tmps)then _ else _
  split at h
  ·rename_i hw;rw[if_pos hw];rcases h with h| ⟨h1,h2⟩
   ·refine .inl ?_;unfold Oper.wp at h⊢;rw[GG];exact VP (λa w=>tQ ds l a w) h
   ·refine .inr ⟨?_,xL h2⟩;unfold Oper.asks at h1⊢;rw[GG];exact h1
  ·rename_i hw;rw[if_neg hw,rB];exact tQ ds l _ _ h
theorem zC{V:cG}{N:Nat}{vargs:Array Value}{args:List PV}(hrl:RL V vargs args)(hl:args.length<=N):eR V N {tmps:=vargs++Array.replicate (N-vargs.size) undef,defers:= []} (enter args):=by
 refine⟨by simp[hrl.1];omega,rfl,λi hi=> ?_⟩;rw[aMt,Array.getElem?_append];unfold enter
 by_cases hia:i<args.length
 ·rw[if_pos (by rw[hrl.1];exact hia),<-aMt,aNj,aNi hia];exact hrl.2 i hia
 ·rw[aNj,aM2 z8];exact .junk _
abbrev DF:=Option (FuncId×List PV)
def WI(V:cG)(ds:List Deferred):DF->Prop
 |none=>ds= []
 |some (f,pcs)=>∃cap,ds= [{target:=.fn (.func f) cap,args:= #[]}]/\RL V cap pcs
theorem WI.mono{V V':cG}{ds:List Deferred}{d:DF}(h:V.le V')(r:WI V ds d):WI V' ds d:=by
 cases d with
 |none=>exact r
 |some x=>obtain⟨cap,h1,h2⟩:=r;exact⟨cap,h1,h2.1,λi hi=>(h2.2 i hi).mono h⟩
abbrev DH:=Exit->DF->aJ->aH->Prop
def aA0(N nb:Nat)(E:aK)(Q:DH):Exit->Act->World->Prop:=λe a' w'=>∃E' T' d',E'.w=w'/\E.leN nb E'/\E'.Ok/\eR E'.view N (nB a') T'/\WI E'.view a'.defers d'/\Q e d' T' E'.H
def LU(P:Program)(N nb:Nat)(c:Code)(Q:DH)(d:DF)(T:aJ)(H:aH):Prop:=
 ∀(E:aK) (a:Act),E.Ok->E.H=H->eR E.view N (nB a) T->WI E.view a.defers d->c.wp P (aA0 N nb E Q) a E.w
theorem OP{N nb:Nat}{E E1:aK}(h:E.leN nb E1){Q Q':DH}(hq:∀e d T H,Q e d T H->Q' e d T H){e:Exit}{a:Act}{w:World}(hl:aA0 N nb E1 Q e a w):aA0 N nb E Q' e a w:=by
 obtain⟨E',T',d',h1,h2,h3,h4,h5,h6⟩:=hl;exact⟨E',T',d',h1,h.trans h2,h3,h4,h5,hq _ _ _ _ h6⟩
def aIt(next:DF->aJ->aH->Prop)(Q:DH):DH
 | .normal,d,T,H=>next d T H
 |e,d,T,H=>Q e d T H
section
variable{P:Program}{N nb:Nat}{Q:DH}{d:DF}{T:aJ}{H:aH}
theorem tV{x y:Code}(h:LU P N nb x (aIt (LU P N nb y Q) Q) d T H):LU P N nb (.seq x y) Q d T H:=by
 intro E a ho hH ht hd;refine wp_seq (wp_mono (h E a ho hH ht hd) ?_);intro e a' w' hl;obtain⟨E',T',d',rfl,h2,h3,h4,h5,h6⟩:=hl;cases e with
 |normal=>exact wp_mono (h6 E' a' h3 rfl h4 h5) λe a w hl=>OP h2 (λ_ _ _ _ q=>q) hl
 |_=>exact⟨E',T',d',rfl,h2,h3,h4,h5,h6⟩
theorem DE{c:Code}(h:fO P N nb c (λe T H=>Q e none T H) T H):LU P N nb c Q none T H:=by
 intro E a ho hH ht hd;have hd:a.defers= []:=hd;have ha:nB a=a:=by cases a;simp only[nB]at*;rw[hd]
 rw[ha]at ht;refine wp_mono (h E a ho hH ht) ?_;rintro e a' w' ⟨E',T',h1,h2,h3,h4,h5⟩;have hd':a'.defers= []:=h4.defers;have ha':nB a'=a':=by cases a';simp only[nB]at*;rw[hd']
 exact⟨E',T',none,h1,h2,h3,by rw[ha'];exact h4,hd',h5⟩
theorem YY{id:Nat}{ops:Array Oper}(hn:nb<=H.length)(h:bC P N H.length ops (λe T H=>Q e d T H) ops.toList T H):LU P N nb (.region id ops false) Q d T H:=by
 intro E a ho hH ht hd;have hw:=tQ a.defers _ _ _ (h E (nB a) ho hH ht);rw[QB rfl]at hw;refine wp_mono (wp_region_list hw) ?_;rintro e a' w' ⟨a0,rfl,E',T',h1,h2,h3,h4,h5⟩;have hle:E.le E':=(hH▸h2:E.leN E.H.length E').le;have hz:a0.defers= []:=h4.defers;have e1:nB (wP a.defers a0)=a0:=by cases a0;simp only[nB,wP]at*;rw[hz]
 have e2:(wP a.defers a0).defers=a.defers:=by simp[wP,hz]
 exact⟨E',T',d,h1,hle.leN nb,h3,by rw[e1];exact h4,by rw[e2];exact hd.mono hle.view,h5⟩
theorem XX(h:Q .ret d T H):LU P N nb .ret Q d T H:=λE a ho hH ht hd=>wp_ret ⟨E,T,d,rfl, .refl nb E,ho,ht,hd,hH▸h⟩
theorem OA{id t:Nat}{o1 o2:Oper}{f:FuncId}{caps:Array Operand}(h1:o1.op= .makeFunc (.func f) #[] caps)(hd1:o1.dst=some t)(hg1:o1.guard=none)(hg2:o2.guard=none)(h2:o2.op= .defer ⟨.value (.tmp t), #[], #[]⟩)(hd2:o2.dst=none)(ht:t<N)(hok:caps.toList.all (aU N)=true){pcs:List PV}(hpcs:(caps.toList.map λx=>(bS T x).drop1)=pcs)
  (hq:Q .normal (some (f,pcs)) (upd T t .junk) H):LU P N nb (.region id #[o1,o2] false) Q none T H:=by
 subst hpcs;intro E a ho hH htr hd;have hd:a.defers= []:=hd;have ha:nB a=a:=by cases a;simp only[nB]at*;rw[hd]
 have htr2:=htr;rw[ha]at htr2;refine wp_region_list (wpList_plain hg1 λK hK=> ?_);have r1:(execOp a.eval o1).run P E.w= .ok (.value (.func (.func f) #[] (caps.map a.eval))) E.w:=by
  unfold execOp;rw[h1];simp only[Instr.makeFunc,aM9,aNc,aNa,Array.map_empty]
 unfold Oper.wp;rw[r1,Oper.upon_value];refine hK _ _ (wpList_plain hg2 λK2 hK2=> ?_);have ev:(a.put o1.dst (.func (.func f) #[] (caps.map a.eval))).eval (.tmp t)= .func (.func f) #[] (caps.map a.eval):=by
  rw[hd1];have hs:t<a.tmps.size:=by rw[htr2.size];exact ht
  simp[Act.put,Act.eval,aMt,aMu hs]
 have r2:(execOp (a.put o1.dst (.func (.func f) #[] (caps.map a.eval))).eval o2).run P E.w= .ok (.defer {target:=.fn (.func f) (caps.map a.eval),args:= #[]}) E.w:=by
  unfold execOp;rw[h2];simp only[resolve,ev,Deferred.ofValue,aM9,aNc,aNa,Array.map_empty,Array.append_empty]
 unfold Oper.wp;rw[r2,Oper.upon_defer];refine hK2 _ _ (wpList_nil ?_);refine⟨E,upd T t .junk,_,rfl, .refl nb E,ho, ?_, ?_,hH▸hq⟩
 ·have:=htr2.put (some t) (v:=.func (.func f) #[] (caps.map a.eval)) (p:=.junk) (.junk _);refine⟨?_,rfl, ?_⟩
  ·rw[hd1,hd2];exact this.size
  ·rw[hd1,hd2];exact this.rel
 ·refine⟨caps.map a.eval, ?_, ?_⟩
  ·rw[hd1,hd2];simp[Act.put,hd]
  ·exact vP htr2 caps hok
end
def uH(P:Program)(f:FuncId)(args:List PV)(u:FrameMode)(H:aH)(R:FrameMode->aH->Prop):Prop:=
 ∀(E:aK) (vargs:Array Value),E.Ok->E.H=H->RL E.view vargs args->CallsD P f vargs u E.w λe u' w'=>∃(E':aK) (v:Value),e= .returned v/\E'.w=w'/\E.le E'/\E'.Ok/\R u' E'.H
theorem uH.mono{P:Program}{f:FuncId}{args:List PV}{u:FrameMode}{H:aH}{R R':FrameMode->aH->Prop}(h:uH P f args u H R)(hr:∀u H,R u H->R' u H):uH P f args u H R':=
 λE vargs ho hH hl=>(h E vargs ho hH hl).mono λe u' w' ⟨E',v,h1,h2,h3,h4,h5⟩=>⟨E',v,h1,h2,h3,h4,hr _ _ h5⟩
def aLd(P:Program)(N:Nat)(rs:List ResultVar)(R:PV->aH->Prop):DH:=λe d T H=>match d with
 |none=>(e= .normal\/e= .ret)/\∃r,fQ P N T H rs=some r/\R r H
 |some (f,pcs)=>bO P f=true/\∃u,(((e= .normal\/e= .ret)/\u= .returning)\/∃ch,e= .panic ch/\u= .panicking ch)/\uH P f pcs u H λu' H'=>settle u'= .returning/\∃r,fQ P N T H' rs=some r/\R r H'
theorem QC{P:Program}{N:Nat}{f:FuncId}{fn:Func}{c:Code}{args:List PV}{H:aH}{R:PV->aH->Prop}(hf:P.funcs[f]? =some fn)(hb:fn.body=some c)(hN:fn.ntmps=N)(hl:args.length<=N)
  (h:iJ H.length H->LU P N H.length c (aLd P N fn.results.toList R) none (enter args) H):aR P f args H R:=by
 intro E vargs ho hH hrl;refine calls_of_wp_defers hf hb (wp_mono (h (by have:=ho.hbel;rw[hH]at this;exact this) E _ ho hH (by rw[hN];exact zC hrl hl) rfl) ?_);rintro e a w ⟨E',T',d,rfl,h2,h3,h4,h5,h6⟩;have hle:E.le E':=(hH▸h2:E.leN E.H.length E').le;have hres:∀(E2:aK),E'.le E2->E2.Ok->∀r,fQ P N T' E2.H fn.results.toList=some r->R r E2.H->∃v,(results fn a.tmps).run P E2.w= .ok v E2.w/\∃(E'':aK) (v':Value) (r:PV),Ending.returned v= .returned v'/\E''.w=E2.w/\E.le E''/\E''.Ok/\aQ E''.view v' r/\R r E''.H:=by
  intro E2 hl2 ho2 r hr hR;obtain⟨val,h7,h8⟩:=lE (P:=P) (fn:=fn) (a:=nB a) ho2 (h4.mono hl2.view) hr;exact⟨val,h7,E2,val,r,rfl,rfl,hle.trans hl2,ho2,h8,hR⟩
 cases d with
 |none=>
  obtain⟨he,r,hr,hR⟩:=h6;have hd:a.defers= []:=h5;have hq:=hres E' (.refl E') h3 r hr hR;rcases he with rfl|rfl
  ·show Leaves P fn a.tmps _ a.defers .returning _;rw[hd];exact hq
  ·show Leaves P fn a.tmps _ a.defers .returning _;rw[hd];exact hq
 |some x=>
  obtain⟨g,pcs⟩:=x;obtain⟨hgo,u,hu,hc⟩:=h6;obtain⟨cap,hd,hrc⟩:=h5;have hL:u≠ .run->Leaves P fn a.tmps (λe w'=>∃(E':aK) (v:Value) (r:PV),e= .returned v/\E'.w=w'/\E.le E'/\E'.Ok/\aQ E'.view v r/\R r E'.H) a.defers u E'.w:=by
   intro hne;rw[hd];refine leaves_cons (f:=g) (args:=cap) hne (by simp only[invoke,lI hgo,Array.empty_append]) ((hc E' cap h3 rfl hrc).mono ?_);rintro e2 u' w' ⟨E2,v,rfl,rfl,hl2,ho2,hs,r,hr,hR⟩;simp only;rw[hs];exact hres E2 hl2 ho2 r hr hR
  rcases hu with⟨he,rfl⟩| ⟨ch,rfl,rfl⟩
  ·rcases he with rfl|rfl
   ·exact hL zz
   ·exact hL zz
  ·exact hL zz
abbrev RK:=Exit->aJ->FrameMode->aH->Prop
def SN(P:Program)(N nb:Nat)(c:Code)(Q:RK)(T:aJ)(u:FrameMode)(H:aH):Prop:=
 ∀(E:aK) (a:Act) (c₀:Frame) (cs:List Frame),c₀.mode=u->E.Ok->E.H=H->eR E.view N a T->c.wpS P (λe a' cs' w'=>∃u',cs'= {c₀ with mode:=u'}::cs/\qG N nb E (λe T H=>Q e T u' H) e a' w') a (c₀::cs) E.w
def aH7(next:aJ->FrameMode->aH->Prop)(Q:RK):RK
 | .normal,T,u,H=>next T u H
 |e,T,u,H=>Q e T u H
section
variable{P:Program}{N nb:Nat}{Q:RK}{T:aJ}{u:FrameMode}{H:aH}
theorem BZ{c₀:Frame}(h:c₀.mode=u):c₀= {c₀ with mode:=u}:=by subst h;rfl
theorem CU{c:Code}(h:fO P N nb c (λe T H=>Q e T u H) T H):SN P N nb c Q T u H:=by
 intro E a c₀ cs hu ho hH ht;refine wpS_of_wp (wp_mono (h E a ho hH ht) ?_);intro e a' w' hl;exact⟨u,by rw[<-BZ hu],hl⟩
theorem CZ{c:Code}{Q Q':Exit->Act->List Frame->World->Prop}{a:Act}{cs:List Frame}{w:World}(h:c.wpS P Q a cs w)(hq:∀e a cs w,Q e a cs w->Q' e a cs w):c.wpS P Q' a cs w:=
 λb k hb hr=>let ⟨e,a',cs',w',q,r⟩:=h b k hb hr;⟨e,a',cs',w',hq _ _ _ _ q,r⟩
theorem AT{x y:Code}(h:SN P N nb x (aH7 (λT u H=>SN P N nb y Q T u H) Q) T u H):SN P N nb (.seq x y) Q T u H:=by
 intro E a c₀ cs hu ho hH ht;refine wpS_seq (CZ (h E a c₀ cs hu ho hH ht) ?_);rintro e a' cs' w' ⟨u',rfl,E',T',h1,h2,h3,h4,h5⟩;cases e with
 |normal=>
  subst h1;have:=h5 E' a' {c₀ with mode:=u'} cs rfl h3 rfl h4;refine CZ this ?_;rintro e2 a2 cs2 w2 ⟨u2,rfl,hl⟩;exact⟨u2,rfl,fH h2 (λ_ _ _ q=>q) hl⟩
 |_=>exact⟨u',rfl,E',T',h1,h2,h3,h4,h5⟩
def lX:FrameMode->PV×FrameMode
 | .panicking [{v:=.iface t x,recovered:=false,goexit:=false}]=>(.ifc (some (t,x)), .panicking [{v:=.iface t x,recovered:=true}])
 |u=>(.ifc none,u)
theorem IM{id t x:Nat}{o1 o2:Oper}(hu:u= .returning\/∃tt xx,u= .panicking [{v:=.iface tt xx,recovered:=false}])(h1:o1.op= .call ⟨.builtin .recover, #[], #[]⟩)(hd1:o1.dst=some t)(hg1:o1.guard=none)(h2:o2.op= .assign (.tmp t))(hd2:o2.dst=some x)(hg2:o2.guard=none)(ht:t<N)
  (h:Q .normal (upd (upd T t (lX u).1) x (lX u).1) (lX u).2 H):SN P N nb (.region id #[o1,o2] false) Q T u H:=by
 intro E a c₀ cs hm ho hH htr;refine wpS_region ?_;have r1:(execOp a.eval o1).run P E.w= .ok .recover E.w:=by
  unfold execOp;rw[h1];rfl
 have w1:Region.wanted o1 (yielded #[o1,o2] a.tmps)=true:=by simp[Region.wanted,hg1]
 have hs:t<a.tmps.size:=by rw[htr.size];exact ht
 have key:∀(val:Value) (u':FrameMode),aQ E.view val (lX u).1->u'=(lX u).2->wpOpsS P #[o1,o2] (λe a' cs' w'=>∃u',cs'= {c₀ with mode:=u'}::cs/\qG N nb E (λe T H=>Q e T u' H) e a' w') [1] (a.put o1.dst val) ({c₀ with mode:=u'}::cs) E.w:=by
  intro val u' hv hu';have ev:(a.put o1.dst val).eval (.tmp t)=val:=by
   rw[hd1];simp[Act.put,Act.eval,aMt,aMu hs]
  have w2:Region.wanted o2 (yielded #[o1,o2] (a.put o1.dst val).tmps)=true:=by simp[Region.wanted,hg2]
  have r2:(execOp (a.put o1.dst val).eval o2).run P E.w= .ok (.value val) E.w:=by
   unfold execOp;rw[h2];simp only[ev,aNc]
  simp only[wpOpsS];have e1:(#[o1,o2]:Array Oper)[1]? =some o2:=rfl;rw[e1];simp only[w2,if_true];rw[r2];show ∃u',_/\_;refine⟨u',rfl,E,_,rfl, .refl nb E,ho,(htr.put (some t) hv).put (some x) hv |> λh=>by rw[hd1,hd2];exact h, ?_⟩;rw[hu',hH];exact h
 have hr:List.range (#[o1,o2]:Array Oper).size= [0,1]:=rfl;rw[hr];rw[wpOpsS];have e0:(#[o1,o2]:Array Oper)[0]? =some o1:=rfl;have e1:(#[o1,o2]:Array Oper)[1]? =some o2:=rfl;rw[e0];simp only[w1,if_true];rw[r1];rcases hu with rfl| ⟨tt,xx,rfl⟩
 ·have hrd:recoverD (c₀::cs)=none:=by simp only[recoverD,hm]
  simp only[hrd];have:=key .nilIface .returning .nili rfl;rw[<-BZ hm]at this;exact this
 ·have hrd:recoverD (c₀::cs)=some (.iface tt xx,{c₀ with mode:=.panicking [{v:=.iface tt xx,recovered:=true}]}::cs):=by simp only[recoverD,hm]
  simp only[hrd];exact key (.iface tt xx) _ (.ifc _ _) rfl
theorem PL{f:FuncId}{fn:Func}{c:Code}{args:List PV}{R:FrameMode->aH->Prop}(hf:P.funcs[f]? =some fn)(hb:fn.body=some c)(hN:fn.ntmps=N)(hl:args.length<=N)(hr:fn.results= #[])
  (h:iJ H.length H->SN P N H.length c (λe T u' H'=>(e= .normal\/e= .ret)/\R u' H') (enter args) u H):uH P f args u H R:=by
 intro E vargs ho hH hrl;refine callsD_of_wpS hf hb λc₀ cs hm=> ?_;refine CZ (h (by have:=ho.hbel;rw[hH]at this;exact this) E _ c₀ cs hm ho hH (by rw[hN];exact zC hrl hl)) ?_;rintro e a' cs' w' ⟨u',rfl,E',T',rfl,h2,h3,h4,he,h5⟩;have hle:E.le E':=(hH▸h2:E.leN E.H.length E').le;have hres:∃v,(results fn a'.tmps).run P E'.w= .ok v E'.w:=by
  obtain⟨val,h7,h8⟩:=lE (P:=P) (N:=N) (fn:=fn) (v:=.tup []) h3 h4 (by rw[hr];rfl);exact⟨val,h7⟩
 obtain⟨v,hv⟩:=hres;rcases he with rfl|rfl
 ·exact⟨h4.defers,u',rfl,v,hv,E',v,rfl,rfl,hle,h3,h5⟩
 ·exact⟨h4.defers,u',rfl,v,hv,E',v,rfl,rfl,hle,h3,h5⟩
end
theorem IA{P:Program}{N nb:Nat}{ops:Array Oper}{Q:cT}{T:aJ}{H:aH}{o:Oper}{l:List Oper}{t xt:TypeId}{x:Operand}{n:Int}(hop:o.op= .typeAssert x xt t true)(hw:aZ ops.toList T N o=some true)(hok:dC N o.op=true){d:TypeDesc}(hu:P.underlying t=some d)(hd:∀m,d≠ .interface m)
  (hx:bS T x= .ifc (some (t, .agg #[.int .i64 n]))) (h:bC P N nb ops Q l (bT T o.dst (.tup [.agg [.int .i64 n], .bool true])) H):bC P N nb ops Q (o::l) T H:=by
 refine eB hw (λE A ho hH ht=> ?_) h;have hall:∀x∈o.op.operands.toList,aU N x=true:=λx hx=>aNz.1 hok x hx;rw[hop]at hall;have rx:=aN ht x (hall x (by simp[Op.operands]));rw[hx]at rx;have ex:A.eval x= .iface t (.agg #[.int .i64 n]):=by
  generalize A.eval x=y at rx;cases rx;rfl
 refine⟨E, .tuple #[.agg #[.int .i64 n], .bool true], .inl ?_, .refl E,ho,hH, ?_⟩
 ·unfold execOp;rw[hop];simp only[Instr.typeAssert,aM9,aP hu,aNa,ex];cases d with
  |interface m=>exact(hd m rfl).elim
  |_=>simp only[if_true,aNc,aNa]
 ·refine .tup _ _ rfl λi hi=> ?_;rcases aMo i 1 with h0|h0
  ·obtain rfl:i=0:=z8
   refine .agg _ _ rfl λj hj=> ?_;obtain rfl:j=0:=by simp at hj;omega
   exact .int _ _
  ·obtain rfl:i=1:=by simp at hi;omega
   exact .bool _
theorem WN{P:Program}{w:World}(op:BinOp)(t:TypeId)(x:Operand)(y:TypeId)(v:Value):(eqGuard op t x (.const .nilIface) (.iface y v) .nilIface).run P w= .ok () w:=by
 cases op<;>rfl
theorem WS{P:Program}{w:World}(op:BinOp)(t:TypeId)(x:Operand):(eqGuard op t x (.const .nilIface) .nilIface .nilIface).run P w= .ok () w:=by
 cases op<;>simp[eqGuard]<;>rfl
theorem CF{P:Program}{N nb:Nat}{ops:Array Oper}{Q:cT}{T:aJ}{H:aH}{o:Oper}{l:List Oper}{t y:TypeId}{x:Operand}(hop:o.op= .binOp .neq t x (.const .nilIface) y)(hw:aZ ops.toList T N o=some true)(hok:aU N x=true){ms:Array (String×TypeId)}(hu:P.underlying t=some (.interface ms))
  {v:Option (TypeId×Value)} (hx:bS T x= .ifc v) (h:bC P N nb ops Q l (bT T o.dst (.bool v.isSome)) H):bC P N nb ops Q (o::l) T H:=by
 refine eB hw (λE A ho hH ht=> ?_) h;have rx:=aN ht x hok;have hc:A.eval (.const .nilIface)= .nilIface:=rfl;refine⟨E, .bool v.isSome, .inl ?_, .refl E,ho,hH, .bool _⟩;unfold execOp;rw[hop];rw[hx]at rx;cases v with
 |some tv=>
  obtain⟨tt,v⟩:=tv;have hv:A.eval x= .iface tt v:=by
   generalize A.eval x=y at rx;cases rx;rfl
  have he:∀w,(Op.equal t (.iface tt v) .nilIface).run P w= .ok false w:=λw=>by
   have key:∀d,(Op.equalIn (d+1) t (.iface tt v) .nilIface).run P w= .ok false w:=by
    intro d;simp only[Op.equalIn,aM9,aP hu,aNa,aNc]
   exact key 9999
  simp only[aM9,hv,hc,WN,aNa,binOp,he,aNc];rfl
 |none=>
  have hv:A.eval x= .nilIface:=by
   generalize A.eval x=y at rx;cases rx;rfl
  have he:∀w,(Op.equal t .nilIface .nilIface).run P w= .ok true w:=λw=>by
   have key:∀d,(Op.equalIn (d+1) t .nilIface .nilIface).run P w= .ok true w:=by
    intro d;simp only[Op.equalIn,aM9,aP hu,aNa,aNc]
   exact key 9999
  simp only[aM9,hv,hc,WS,aNa,binOp,he,aNc];rfl
open Go.Proofs Go.Memo
theorem sR.actclr{ix:Ids}{loc:QK->Nat}{act:List QK}{st:St}{F:eL}{H:aH}(h:sR ix loc act st F H)(clk:Nat):sR ix loc [] st F (H.set ix.a (.obj (.mapg [] clk))):=by
 obtain⟨o1,o2,o3,o4,o5⟩:=h.own;obtain⟨n1,n2,n3,n4,n5,n6,n7,n8,n9,n10⟩:=h.ne;have hs:∀id,id≠ix.a->(H.set ix.a (AObj.obj (.mapg [] clk)))[id]? =H[id]? :=λid hi=>aM5 (Ne.symm hi);refine⟨by rw[hs _ n4];exact h.db,by rw[hs _ n7];exact h.sto,by rw[hs _ n10];exact h.cells,by rw[hs _ n9];exact h.res,λq r hq=> ?_,h.inj,⟨[],clk,aM4 (h.lt _ o5), ?_,λq=> ?_⟩,h.okc,h.own,λid hi=>by rw[lS];exact h.lt id hi,h.ne,λc hc=>by rw[hs _ n4]at hc;exact h.clk c hc,λq r tl lu hq hr=>by rw[hs _ (h.recs q r hq).2.2.2.2.2.2.1]at hr;exact h.lus q r tl lu hq hr⟩
 ·obtain⟨h1,h2⟩:=h.recs q r hq;exact⟨by rw[hs _ h2.2.2.2.2.2.1];exact h1,h2⟩
 ·exact List.Pairwise.nil
 ·simp[gP,iH]
theorem sS:(aW .nilFunc= .nilfn)/\(PV.cells .nilfn= [.nilfn])/\(PV.isCell .nilfn=true)/\(aW .nilIface= .ifc none)/\(∀f a b,PV.cells (.fn f a b)= [.fn f a b])/\(∀f a b,PV.isCell (.fn f a b)=true)/\(PV.drop1 .nilfn= .nilfn)/\(∀f a b,PV.drop1 (.fn f a b)= .fn f a b):=
 ⟨rfl,rfl,rfl,rfl,λ_ _ _=>rfl,λ_ _ _=>rfl,rfl,λ_ _ _=>rfl⟩
def Cx.off(cx:Cx):Cx:= {cx with ix:= {cx.ix with stp:=.nilfn},stpf:=λ_=>false}
theorem oA.off{cx:Cx}(hx:oA cx):oA cx.off:=⟨hx.comp,hx.istab,hx.ilt, .inl ⟨rfl,λ_=>rfl⟩⟩
section
variable{cx:Cx}(hx:oA cx){loc:QK->Nat}{act:List QK}{st:St}{b:Bool}{G:eL}{H:aH}
include hx
theorem WR.stp{cx':Cx}(h:WR cx loc act st b G H)(stp:PV)(hc:cx'.ix= {cx.ix with stp:=stp})(he:cx'.env=cx.env)(hF:cx'.FX=cx.FX)(hI:cx'.I=cx.I){H':aH}{clock:Int}(hd:H[cx.ix.d]? =some (.row [cx.ix.cf, .optr cx.ix.s 0, .mapp cx.ix.m, .mapp cx.ix.a,cx.ix.stp,aE st.comps,aE clock]))
  (hH:H'=H.set cx.ix.d (.row [cx.ix.cf, .optr cx.ix.s 0, .mapp cx.ix.m, .mapp cx.ix.a,stp,aE st.comps,aE clock])):WR cx' loc act st b G H'/\dE G G H H':=by
 obtain⟨F,h1,h2,h3,rfl,h4⟩:=h;subst hH;have d1:=h1.dbrow stp st.comps clock st.clk (aMq _) (h1.clk clock hd);obtain⟨o1,_⟩:=h1.own;have hs:∀id,¬F id->(H.set cx.ix.d (AObj.row [cx.ix.cf, .optr cx.ix.s 0, .mapp cx.ix.m, .mapp cx.ix.a,stp,aE st.comps,aE clock]))[id]? =H[id]? :=λid hf=>aM5 (by rintro rfl;exact hf o1);refine⟨⟨F,by rw[hc];exact d1,by rw[hI];exact hx.istab b H _ h2 λid hi=>hs id λhf=>h3 id hf hi,by rw[hF];exact h3,by rw[hF,he],λe hm=> ?_⟩,zz,λid _ hn=>hs id λhf=>hn (.inl hf),λid hi _=>hi⟩;rw[he]at hm;refine⟨by rw[hs e.1 (h4 e hm).2.1];exact(h4 e hm).1,(h4 e hm).2.1,by rw[hF];exact(h4 e hm).2.2⟩
theorem WR.clr(h:WR cx loc act st b G H){clk:Nat}{es:List GE}(ha:H[cx.ix.a]? =some (.obj (.mapg es clk))):WR cx loc [] st b G (H.set cx.ix.a (.obj (.mapg [] clk)))/\dE G G H (H.set cx.ix.a (.obj (.mapg [] clk))):=
 h.upd hx zz λF D=>⟨D.actclr clk,λid hn=>aM5 (by rintro rfl;exact hn D.own.2.2.2.2)⟩
end
end Go.Abs
namespace Go.Abs
open Go.Proofs Go.Memo
theorem aDt{cx:Cx}(hx:oA cx)(ch:Bool)(u:FrameMode)(hu:(u= .returning/\ch=false)\/(u= .panicking zT/\ch=true))(loc:QK->Nat)(act:List QK)(st:St)(b:Bool)(G:eL)(H:aH)(x3 x6 x7:Nat)(v1 v2 e0:PV)
  (h3:H[x3]? =some (.row [.optr cx.ix.d 0])) (h6:H[x6]? =some (.row [v1,v2])) (h7:H[x7]? =some (.row [e0])) (hne:x3≠x6/\x3≠x7/\x6≠x7) (hn:¬G x3/\¬G x6/\¬G x7) (hW:WR cx loc act st b G H):
  uH Tryz.prog 105 [.optr x3 0, .optr x6 0, .optr x7 0] u H (λu' H'=>settle u'= .returning/\WR cx.off loc [] st b G H'/\dE (λid=>G id\/id=x6\/id=x7) G H H'/\(if ch=true then H'[x6]? =some (.row [.slice [] .full, .str []])/\H'[x7]? =some (.row [aE 12])else H'[x6]? =some (.row [v1,v2])/\H'[x7]? =some (.row [e0]))):=by
 obtain⟨F,D,hI,hdis,hG,henv⟩:=id hW;obtain⟨clock,hd⟩:=D.db;obtain⟨aes,aclk,ha,_,_⟩:=D.acts;have h3L:=bU h3;have nGd:∀id,¬G id->id≠cx.ix.d:=λid hid e=>hid (by rw[hG];exact .inl (e▸D.own.1));have nGa:∀id,¬G id->id≠cx.ix.a:=λid hid e=>hid (by rw[hG];exact .inl (e▸D.own.2.2.2.2));have hc3:∀o,(H.set cx.ix.d o)[x3]? =_:=λo=>bN h3 (nGd _ hn.1);have hdc:∀o,(H.set cx.ix.d o)[cx.ix.d]? =some o:=λo=>aM4 (D.lt _ D.own.1);have hac:∀ {o},(H.set cx.ix.d o)[cx.ix.a]? =_:=λ{o}=>bN ha (Ne.symm D.ne.2.2.2.1);have vd:(cx.ix.d=H.length)=False:=by have:=D.lt _ D.own.1;simp;omega
 refine PL (N:=27) Tryz.func105 rfl rfl zz rfl λhb'=> ?_;refine AT ?_;refine CU ?_
 ·
  refine aV (aG y23 qV rK aA aD aB (bL aC sS h3 hd vd)) ?_;refine AT ?_;refine CU ?_
  ·
   repeat refine wS ?_
   refine wR ?_;refine eT 4 (by simp only[kA,seval,y3,qV,y88,rK,aE,aA,aD,aB,aC,sS,h3,hd,vd,h3,hc3,hdc,hac]<;>with_reducible rfl) z7 ?_;refine YL rfl (by simp only[kC,seval,aE,aA,aD,aB,aC,h3,hc3,hdc,hac]) z7 Tryz.underlying88 (by simp only[kC,seval,aE,aA,aD,aB,aC,h3,hc3,hdc,hac]<;>rfl) hac ?_;refine oN ?_;refine AT ?_;refine IM (by rcases hu with⟨rfl,_⟩| ⟨rfl,_⟩;exact .inl rfl;exact .inr ⟨_,_,rfl⟩) rfl rfl rfl rfl rfl rfl z7 ?_;refine CU ?_;refine dI (λH2=>WR cx.off loc [] st b G H2/\dE G G H H2/\H2[x6]? =some (.row [v1,v2])/\H2[x7]? =some (.row [e0])) ?_ ?_
   ·obtain⟨w1,f1⟩:=hW.stp hx (cx':=cx.off) .nilfn rfl rfl rfl rfl hd rfl;obtain⟨w2,f2⟩:=w1.clr hx.off (clk:=aclk) (es:=aes) hac;exact⟨w2,f1.trans f2,bN (bN h6 (nGd _ hn.2.1)) (nGa _ hn.2.1),bN (bN h7 (nGd _ hn.2.2)) (nGa _ hn.2.2)⟩
   rintro H2 ⟨W2,f2,g6,g7⟩;rcases hu with⟨rfl,rfl⟩| ⟨rfl,rfl⟩
   ·
    repeat refine wS ?_
    refine wR ?_;refine eT 1 (by simp only[kA,seval,aE,aA,aD,aB,aC,sS,h3,hd,vd,h3,hc3,hdc,hac,lX]<;>with_reducible rfl) z7 ?_;refine CF rfl (by simp only[kC,seval,aE,aA,aD,aB,aC,lX,zT]) z7 Tryz.underlying20 (by simp only[kC,seval,aE,aA,aD,aB,aC,lX,zT]<;>rfl) ?_;refine oN ?_
    repeat refine wS ?_
    refine wF rfl (by simp only[jN,seval,aE,aA,aD,aB,aC,sS,h3,hd,vd,h3,hc3,hdc,hac,lX]<;>with_reducible rfl) ?_
    repeat refine wS ?_
    refine wK ?_;exact⟨.inl rfl,rfl,W2,f2.sub λid h=>.inl h,g6,g7⟩
   ·
    have l6:=lG g6;have l7:=lG g7;have g6L:=bU g6;have g7L:=bU g7;have v6:∀o,(x6=(H2++ [o]).length)=False:=λo=>by simp;omega
    have v7:∀o,(x7=(H2++ [o]).length)=False:=λo=>by simp;omega
    have e67:(x6=x7)=False:=by simp;exact hne.2.2
    repeat refine wS ?_
    refine wR ?_;refine eT 1 (by simp only[kA,seval,aE,aA,aD,aB,aC,sS,h3,hd,vd,h3,hc3,hdc,hac,lX,zT,g6,g7,g6L,g7L]<;>with_reducible rfl) z7 ?_;refine CF rfl (by simp only[kC,seval,aE,aA,aD,aB,aC,lX,zT]) z7 Tryz.underlying20 (by simp only[kC,seval,aE,aA,aD,aB,aC,lX,zT]<;>rfl) ?_;refine oN ?_
    repeat refine wS ?_
    refine nX rfl (by simp only[jN,seval,aE,aA,aD,aB,aC,sS,h3,hd,vd,h3,hc3,hdc,hac,lX,zT,g6,g7,g6L,g7L]<;>with_reducible rfl) ?_
    repeat refine wS ?_
    refine wR ?_;refine eT 1 (by simp only[kA,seval,aE,aA,aD,aB,aC,sS,h3,hd,vd,h3,hc3,hdc,hac,lX,zT,g6,g7,g6L,g7L]<;>with_reducible rfl) z7 ?_;refine IA rfl (by simp only[kC,seval,aE,aA,aD,aB,aC,lX,zT]) z7 Tryz.underlying163 zz (by simp only[kC,seval,aE,aA,aD,aB,aC,lX,zT]<;>rfl) ?_;refine xF (by simp only[kA,seval,aGf,aE,aA,aD,aB,aC,sS,h3,hd,vd,h3,hc3,hdc,hac,lX,zT,g6,g7,g6L,g7L]<;>with_reducible rfl) z7 ?_;refine wL [1,2,3,4,5] (by simp only[jN,seval,aE,aA,aD,aB,aC,sS,h3,hd,vd,h3,hc3,hdc,hac,lX,zT,g6,g7,g6L,g7L]<;>with_reducible rfl) ?_
    repeat refine wS ?_
    refine eE (by simp only[kA,seval,aE,aA,aD,aB,aC,sS,h3,hd,vd,h3,hc3,hdc,hac,lX,zT,g6,g7,g6L,g7L]<;>with_reducible rfl) z7 ?_
    repeat refine wS ?_
    refine wF rfl (by simp only[jN,seval,aE,aA,aD,aB,aC,sS,h3,hd,vd,h3,hc3,hdc,hac,lX,zT,g6,g7,g6L,g7L]<;>with_reducible rfl) ?_
    repeat refine wS ?_
    refine wK ?_;refine dI (λH3=>H3.length=H2.length+1/\(∀id,id<H2.length->H3[id]? =H2[id]?)/\H3[H2.length]? =some (.row [.int .i64 12])) ⟨zz,λid hid=>by simp[aM0 hid],zz⟩ ?_;rintro H3 ⟨h3n,h3s,h3t⟩;have k6:=(h3s _ l6).trans g6;have k7:=(h3s _ l7).trans g7;have v6:(x6=H3.length)=False:=by simp;omega
    have v7:(x7=H3.length)=False:=by simp;omega
    have w6:decide (H3.length<=x6)=false:=by simp;omega
    have w7:decide (H3.length<=x7)=false:=by simp;omega
    have q6:(x6=H2.length)=False:=by simp;omega
    have q7:(x7=H2.length)=False:=by simp;omega
    have p6:(H2.length=x6)=False:=by simp;omega
    have p7:(H2.length=x7)=False:=by simp;omega
    have u6:(x6==H2.length)=false:=by simp;omega
    have u7:(x7==H2.length)=false:=by simp;omega
    have u67:(x7==x6)=false:=by simp;exact Ne.symm hne.2.2
    have m6:∀o,(H3.set x6 o)[x7]? =_:=λo=>bN k7 (Ne.symm hne.2.2);have m4:∀o,(H3.set x6 o)[H2.length]? =_:=λo=>bN h3t z8
    ·
     repeat refine wS ?_
     refine kP 0 (by kernel_rfl) ?_;refine pR (bm:= [0,0,2,1,15]) (fresh:=(H3.length)) (by kernel_rfl) (by simp only[jD,jO,jN,seval,EN,nU,aGf,aE,aA,aD,aB,aC,sS,h3,hd,vd,h3,hc3,hdc,hac,lX,zT,g6,g7,g6L,g7L,k6,k7,v6,v7,w6,w7,u6,u7,u67,aNx,q6,q7,p6,p7,m6,m4,h3t,lS]<;>with_reducible rfl) z7 ?_;have hl2:=f2.len;have hs:∀id,id<H2.length->id≠x6->id≠x7->∀o o2,((H3.set x6 o).set x7 o2)[id]? =H2[id]? :=λid h1 h2 h3 o o2=>by
      rw[aM5 (Ne.symm h3),aM5 (Ne.symm h2)];exact h3s id h1
     refine⟨.inl rfl,rfl,W2.fr hx.off (λid hi=>hs id (W2.lt hx.off id hi) (λe=>hn.2.1 (e▸hi)) (λe=>hn.2.2 (e▸hi)) _ _),⟨by simp;omega,λid h1 h2=> ?_,λid h _=>.inl h⟩, ?_, ?_⟩
     ·have:¬G id/\id≠x6/\id≠x7:=⟨λh=>h2 (.inl h),λh=>h2 (.inr (.inl h)),λh=>h2 (.inr (.inr h))⟩;exact(hs id z8 this.2.1 this.2.2 _ _).trans (f2.same id h1 this.1)
     ·rw[aM5 (Ne.symm hne.2.2),aM4 z8]
     ·rw[aM4 (by simp;omega)]
end Go.Abs
namespace Go.Abs
open Go.Proofs Go.Memo
def aFg:Option gU->PV
 |some r=>qN r.val
 |none=>qN ⟨[],[]⟩
def IF:Option gU->Int
 |some _=>0
 |none=>12
theorem aK7{cx:Cx}(hx:oA cx):cx.ix.stp.cells= [cx.ix.stp]/\cx.ix.stp.isCell=true/\cx.ix.stp.drop1=cx.ix.stp:=by
 rcases hx.stop with⟨h,_⟩| ⟨f,caps,h,_⟩
 ·rw[h];exact⟨rfl,rfl,rfl⟩
 ·rw[h];exact⟨rfl,rfl,rfl⟩
theorem PQ{cx:Cx}(hx:oA cx)(n:Nat)(k:QK)(hk:k.1≠0)(loc:QK->Nat)(st:St)(G:eL)(H:aH)(o:Option gU)(st':St)(hm:Memo.upd cx.stpf cx.cp n [] k st=some (o,st'))(hl:∀r,o=some r->r.val.nums.length<=rD)(hW:WR cx.off loc [] st false G H):
  aR Tryz.prog 83 [.optr cx.ix.d 0,dQ k,cx.ix.stp] H (λr H'=>∃loc' G',r= .tup [aFg o,aE (IF o)]/\WR cx.off loc' [] st' o.isNone G' H'/\dE G G' H H'):=by
 obtain⟨k1,k2,k3⟩:=k;obtain⟨sc,sj,sd⟩:=aK7 hx;have t10:decide (k1=0)=false:=decide_eq_false hk;refine QC (N:=34) Tryz.func83 rfl rfl zz λhb'=> ?_;refine tV ?_;refine DE ?_
 ·
  refine aV (aG qV iB EN nU aA aD (bL aB aC sS bG sd)) ?_;refine tV ?_;refine DE ?_;refine dI (λH1=>WR cx.off loc [] st false G H1/\dE G G H H1/\H1[H.length]? =some (.row [.optr cx.ix.d 0])/\H1[H.length+1]? =some (.row [aE k1,aE k2,aE k3])/\H1[H.length+2]? =some (.row [.slice [] .full, .str []])/\H1[H.length+3]? =some (.row [aE 0])) ⟨hW.app hx.off _,dE.app _ _ _ (hW.lt hx.off),zz,zz,zz,zz⟩ ?_;rintro H1 ⟨W1,f1,b3,b4,b6,b7⟩;obtain⟨F1,D1,_,_,hG1,_⟩:=id W1;obtain⟨clock1,hd1⟩:=D1.db;have hd1:H1[cx.ix.d]? =some (.row [cx.ix.cf, .optr cx.ix.s 0, .mapp cx.ix.m, .mapp cx.ix.a, .nilfn,aE st.comps,aE clock1]):=hd1;have v1:(cx.ix.d=H1.length)=False:=by have:=lG hd1;simp;omega
  have nG:∀id,H.length<=id->¬G id:=λid hid h=>by have:=hW.lt hx.off _ h;omega
  have nd:∀id,H.length<=id->id≠cx.ix.d:=λid hid e=>nG id hid (by rw[hG1];exact .inl (e▸D1.own.1))
  ·
   refine aV (aG y3 iB aA aD aB aC (aG sS bG sd b3 b4 b6 (cF b7 hd1 t10 sc sj v1))) ?_;refine pJ (aG aA aD aB aC sS bG (aG sd b3 b4 b6 b7 hd1 (bD t10 sc sj v1))) ?_
   repeat refine wS ?_
   refine wK ?_;refine tV ?_;refine DE ?_
   ·
    refine aV (aG y23 qV rK aA aD aB (aG aC sS bG sd b3 b4 (aG b6 b7 hd1 t10 sc sj v1))) ?_;refine tV ?_;refine OA (pcs:= [.optr H.length 0, .optr (H.length+2) 0, .optr (H.length+3) 0]) rfl rfl rfl rfl rfl rfl z7 z7 (by simp only[aNl,aOb,jN,seval,aE,aA,aD,aB,aC];try rfl) ?_;obtain⟨W2,f2⟩:=W1.stp hx.off (cx':=cx) cx.ix.stp rfl rfl rfl rfl hd1 rfl;refine tV ?_;refine YY (by have:=f1.len;simp;omega) ?_;have d3:∀o,(H1.set cx.ix.d o)[H.length]? =_:=λo=>bN b3 (nd _ z8);have d4:∀o,(H1.set cx.ix.d o)[H.length+1]? =_:=λo=>bN b4 (nd _ z8);have d6:∀o,(H1.set cx.ix.d o)[H.length+2]? =_:=λo=>bN b6 (nd _ z8);have d7:∀o,(H1.set cx.ix.d o)[H.length+3]? =_:=λo=>bN b7 (nd _ z8)
    ·
     refine DS 2 (aG qV iB aA aD aB aC (aG sS bG sd b3 b4 b6 (aG b7 hd1 t10 sc sj v1 (aS d3 d4)))) ?_;refine gN (dW (aG aA aD aB aC sS bG (aG sd b3 b4 b6 b7 hd1 (cF t10 sc sj v1 d3 d4)))) (bP (aG aA aD aB aC sS bG (aG sd b3 b4 b6 b7 hd1 (cF t10 sc sj v1 d3 d4)))) z7 QJ (aEd hx n [] (k1,k2,k3) loc st G _ o st' hk hm W2) ?_ (λHP ⟨ho,loc',act',G',w',f'⟩=> ?_)
     rotate_left
     ·subst ho;obtain⟨p3,q3⟩:=f'.get (d3 _) (nG _ z8);obtain⟨p6,q6⟩:=f'.get (d6 _) (nG _ z8);obtain⟨p7,q7⟩:=f'.get (d7 _) (nG _ z8);refine⟨YR, .panicking zT, .inr ⟨_,rfl,rfl⟩,(aDt hx true (.panicking zT) (.inr ⟨rfl,rfl⟩) loc' act' st' true G' HP H.length (H.length+2) (H.length+3) _ _ _ p3 p6 p7 z8 ⟨q3,q6,q7⟩ w').mono ?_⟩;rintro u' H' ⟨hset,w2,g2,hcell⟩;obtain⟨hr6,hr7⟩:=hcell;refine⟨hset,_,(bI (.cell 6 67) (.cell 7 36) rfl (kS pT z7 (JA (aG aA aD aB aC sS hr6 hr7))) (kS XD z7 (JA (aG aA aD aB aC sS hr6 hr7)))),_,_,rfl,w2,(((f1.trans f2).trans f').more λid hi=> ?_).trans g2⟩;rcases hi with hi|rfl|rfl
      ·exact .inl hi
      ·exact .inr z8
      ·exact .inr z8
     rintro rv H5 ⟨rec,loc',G5,ho,rfl,w5,f5,_⟩;subst ho;obtain⟨p3,q3⟩:=f5.get (d3 _) (nG _ z8);obtain⟨p6,q6⟩:=f5.get (d6 _) (nG _ z8);obtain⟨p7,q7⟩:=f5.get (d7 _) (nG _ z8);obtain⟨F5,D5,_,_,hG5,_⟩:=id w5;obtain⟨⟨tl5,lu5,r5⟩,r5F,_⟩:=D5.recs _ _ ((HT cx.stpf cx.cp n).res _ _ _ _ _ hm);simp only[oR]at r5;have m7:∀o,(H5.set (H.length+2) o)[H.length+3]? =_:=λo=>bN p7 z8;have v6:(H.length+2=H5.length)=False:=by have:=lG p6;simp;omega
     have v7:(H.length+3=H5.length)=False:=by have:=lG p7;simp;omega
     refine DS 3 (aG nU pO aA aD aB aC (aG sS bG sd b3 b4 b6 (aG b7 hd1 t10 sc sj v1 (aG d3 d4 r5 p6 p7 m7 (bR v6 v7 @RJ))))) ?_;refine qT (aG aA aD aB aC sS bG (aG sd b3 b4 b6 b7 hd1 (aG t10 sc sj v1 d3 d4 (aG r5 p6 p7 m7 v6 v7 @RJ)))) GY (AM rec.val.nums rec.val.text (UG (hl rec rfl)) _) ?_;refine bH (aG EN nU aA aD aB aC (aG sS bG sd b3 b4 b6 (aG b7 hd1 t10 sc sj v1 (aG d3 d4 r5 p6 p7 m7 (bR v6 v7 @RJ))))) ?_
     repeat refine wS ?_
     refine XX ?_;have s3:∀o o2,((H5.set (H.length+2) o).set (H.length+3) o2)[H.length]? =_:=λo o2=>bN (bN p3 z8) z8;have s6:∀o o2,((H5.set (H.length+2) o).set (H.length+3) o2)[H.length+2]? =some o:=λo o2=>bN (aM4 (lG p6)) z8;have s7:∀o o2,((H5.set (H.length+2) o).set (H.length+3) o2)[H.length+3]? =some o2:=λo o2=>aM4 (by simpa using lG p7);refine⟨YR, .returning, .inl ⟨.inr rfl,rfl⟩,(aDt hx false .returning (.inl ⟨rfl,rfl⟩) loc' [] st' false G5 _ H.length (H.length+2) (H.length+3) _ _ _ (s3 _ _) (s6 _ _) (s7 _ _) z8 ⟨q3,q6,q7⟩ (w5.fr hx λid hi=> ?_)).mono ?_⟩
     ·rw[aM5 (by rintro rfl;exact q7 hi),aM5 (by rintro rfl;exact q6 hi)]
     rintro u' H' ⟨hset,w2,g2,hcell⟩;obtain⟨hr6,hr7⟩:=hcell;refine⟨hset,_,(bI (.cell 6 67) (.cell 7 36) rfl (kS pT z7 (JA (aG aA aD aB aC sS hr6 hr7))) (kS XD z7 (JA (aG aA aD aB aC sS hr6 hr7)))),_,_,rfl,w2,(((((f1.trans f2).trans f5).new z8 _).new z8 _).more λid hi=> ?_).trans g2⟩;rcases hi with hi|rfl|rfl
     ·exact .inl hi
     ·exact .inr z8
     ·exact .inr z8
end Go.Abs
namespace Go.Abs
open Go.Proofs Go.Memo
section
variable{ix:Ids}{loc:QK->Nat}{act:List QK}{st:St}{F:eL}{H:aH}
theorem sR.seti(h:sR ix loc act st F H)(k:QK)(v:QV)(d:Nat)(hsm:¬((st.cell k).d=d/\(st.cell k).val=v))(hv:v.nums.length<=rD){es:List GE}{clk:Nat}(hm:H[ix.c]? =some (.obj (.mapg es clk))):
  sR ix loc act (iZ k v d st) F ((H.set ix.s (nY ((st.now+1:Nat):Int) ((iZ k v d st).lc 0) ((iZ k v d st).lc 1) ((iZ k v d st).lc 2) ix.c)).set ix.c (.obj (.mapg (sE es clk k (zJ ⟨v,st.now+1,d⟩)) (vS es clk k))))/\
  ∀id,¬F id->((H.set ix.s (nY ((st.now+1:Nat):Int) ((iZ k v d st).lc 0) ((iZ k v d st).lc 1) ((iZ k v d st).lc 2) ix.c)).set ix.c (.obj (.mapg (sE es clk k (zJ ⟨v,st.now+1,d⟩)) (vS es clk k))))[id]? =H[id]? :=by
 obtain⟨o1,o2,o3,o4,o5⟩:=h.own;obtain⟨n1,n2,n3,n4,n5,n6,n7,n8,n9,n10⟩:=h.ne;have hs:∀id,id≠ix.s->id≠ix.c->∀o o2,((H.set ix.s o).set ix.c o2)[id]? =H[id]? :=λid h1 h2 o o2=>by
  rw[aM5 (Ne.symm h2),aM5 (Ne.symm h1)]
 have e:iZ k v d st= {st with now:=st.now+1,lc:=λi=>if i<=max (st.cell k).d d then st.now+1 else st.lc i,cell:=λq=>if q=k then⟨v,st.now+1,d⟩else st.cell q}:=by
  unfold iZ;rw[if_neg hsm]
 obtain⟨es',clk',e1,e2,e3⟩:=h.cells;rw[hm]at e1;injection e1 with e1;injection e1 with e1;injection e1 with e1 e1';subst e1;subst e1';refine⟨?_,λid hf=>hs id (by rintro rfl;exact hf o2) (by rintro rfl;exact hf o4) _ _⟩;generalize hst':iZ k v d st=st' at*;have f1:st'.res=st.res:=by rw[e]
 have f2:st'.comps=st.comps:=by rw[e]
 have f5:st'.clk=st.clk:=by rw[e]
 have f3:st'.now=st.now+1:=by rw[e]
 have f4:st'.cell=λq=>if q=k then⟨v,st.now+1,d⟩else st.cell q:=by rw[e]
 refine⟨?_, ?_, ?_, ?_,λq r hq=> ?_,λq q' a b hq hq'=>h.inj q q' a b (f1▸hq) (f1▸hq'), ?_,λq=> ?_,h.own,λid hi=>by simpa using h.lt id hi,h.ne,λc hc=> ?_,λq r tl lu hq hr=> ?_⟩
 ·rw[f2,hs _ n1 n3];exact h.db
 ·rw[aM5 (Ne.symm n6),aM4 (h.lt _ o2),f3]
 ·refine⟨_,_,aM4 (by simpa using h.lt _ o4),OX e2 _ _ _,λq=> ?_⟩;rw[BW,f4]
  by_cases hq:q=k
  ·exact .inr (by simp[hq])
  ·rcases e3 q with⟨h1,h2⟩|h1
   ·exact .inl ⟨by simp[hq,h1],by simp[hq,h2]⟩
   ·exact .inr (by simp[hq,h1])
 ·rw[f1,hs _ (Ne.symm n5) n8];exact h.res
 ·rw[f1]at hq;obtain⟨⟨tl,lu,h1⟩,h2,h3,h4,h5,h6,h7,h8⟩:=h.recs q r hq;exact⟨⟨tl,lu,by rw[hs _ h4 h6];exact h1⟩,h2,h3,h4,h5,h6,h7,h8⟩
 ·rw[hs _ (Ne.symm n7) (Ne.symm n10)];exact h.acts
 ·rw[f4];simp only
  split
  ·exact hv
  ·exact h.okc q
 ·rw[f2,hs _ n1 n3]at hc;rw[f5];exact h.clk c hc
 ·rw[f1]at hq;have h4:=h.recs q r hq;rw[hs _ h4.2.2.2.1 h4.2.2.2.2.2.1]at hr;rw[f5];exact h.lus q r tl lu hq hr
theorem sR.forget(h:sR ix loc act st F H)(k:QK){es:List GE}{clk:Nat}(hm:H[ix.m]? =some (.obj (.mapg es clk))):sR ix loc act {st with res:=eQ st.res k none} F (H.set ix.m (.obj (.mapg (uU es k) clk))):=by
 obtain⟨o1,o2,o3,o4,o5⟩:=h.own;obtain⟨n1,n2,n3,n4,n5,n6,n7,n8,n9,n10⟩:=h.ne;have hs:∀id,id≠ix.m->∀o,(H.set ix.m o)[id]? =H[id]? :=λid hi o=>aM5 (Ne.symm hi);obtain⟨es',clk',e1,e2,e3⟩:=h.res;rw[hm]at e1;injection e1 with e1;injection e1 with e1;injection e1 with e1 e1';subst e1;subst e1';have hr:∀q r,eQ st.res k none q=some r->st.res q=some r:=λq r hq=>by
  unfold eQ at hq;split at hq
  ·cases hq
  ·exact hq
 refine⟨by rw[hs _ n2];exact h.db,by rw[hs _ n5];exact h.sto,by rw[hs _ (Ne.symm n8)];exact h.cells,⟨_,_,aM4 (h.lt _ o3),WC e2 _,λq=> ?_⟩,λq r hq=> ?_,λq q' a b hq hq'=>h.inj q q' a b (hr _ _ hq) (hr _ _ hq'),by rw[hs _ (Ne.symm n9)];exact h.acts,h.okc,h.own,λid hi=>by rw[lS];exact h.lt id hi,h.ne,λc hc=>by rw[hs _ n2]at hc;exact h.clk c hc,λq r tl lu hq hr1=>by rw[hs _ (h.recs q r (hr q r hq)).2.2.2.2.1]at hr1;exact h.lus q r tl lu (hr q r hq) hr1⟩
 ·rw[NA e2,e3];simp only[eQ]
  by_cases hq:q=k
  ·simp[hq]
  ·simp[hq]
 ·obtain⟨⟨tl,lu,h1⟩,h2,h3,h4,h5,h6⟩:=h.recs q r (hr q r hq);exact⟨⟨tl,lu,by rw[hs _ h5];exact h1⟩,h2,h3,h4,h5,h6⟩
end
theorem TE:(∀i,(PV.mapp i).isJunk=false)/\(∀i,(PV.mapp i).cells= [.mapp i])/\(∀i,(PV.mapp i).drop1= .mapp i)/\(∀i,(PV.mapp i).isCell=true)/\(∀f a b,(PV.fn f a b).isJunk=false)/\(PV.nilfn.isJunk=false):=
 ⟨λ_=>rfl,λ_=>rfl,λ_=>rfl,λ_=>rfl,λ_ _ _=>rfl,rfl⟩
def St.new:St:=⟨0,λ_=>0,λ_=>.zero,λ_=>none,0,0⟩
theorem sR.new{ix:Ids}{H:aH}(hstp:ix.stp= .nilfn)(hd:H[ix.d]? =some (.row [ix.cf, .optr ix.s 0, .mapp ix.m, .mapp ix.a,ix.stp,aE 0,aE 0]))(hs:H[ix.s]? =some (nY 0 0 0 0 ix.c))(hm:H[ix.m]? =some (.obj (.mapg [] 0)))(hc:H[ix.c]? =some (.obj (.mapg [] 0)))(ha:H[ix.a]? =some (.obj (.mapg [] 0)))
  (ne:ix.d≠ix.s/\ix.d≠ix.m/\ix.d≠ix.c/\ix.d≠ix.a/\ix.s≠ix.m/\ix.s≠ix.c/\ix.s≠ix.a/\ix.m≠ix.c/\ix.m≠ix.a/\ix.c≠ix.a):
  sR ix (λ_=>0) [] St.new (λid=>id=ix.d\/id=ix.s\/id=ix.m\/id=ix.c\/id=ix.a) H:=
 {db:=⟨0,hd⟩,sto:=hs,cells:=⟨[],0,hc,List.Pairwise.nil,λ_=>.inl ⟨rfl,rfl⟩⟩,res:=⟨[],0,hm,List.Pairwise.nil,λ_=>rfl⟩
  recs:=λ_ _ h=>by(cases h)
  inj:=λ_ _ _ _ h=>by(cases h)
  acts:=⟨[],0,ha,List.Pairwise.nil,λ_=>rfl⟩,okc:=λ_=>aNs _
  own:=⟨.inl rfl, .inr (.inl rfl), .inr (.inr (.inl rfl)), .inr (.inr (.inr (.inl rfl))), .inr (.inr (.inr (.inr rfl)))⟩
  lt:=λid hid=>by
   rcases hid with rfl|rfl|rfl|rfl|rfl
   ·exact lG hd
   ·exact lG hs
   ·exact lG hm
   ·exact lG hc
   ·exact lG ha
  ne:=ne
  clk:=λc hc=>by
   rw[hd]at hc;simp[aE]at hc;have h0:wrap64 ((0:Nat):Int)=0:=by unfold wrap64;omega
   exact hc.2.symm.trans h0.symm
  lus:=λ_ _ _ _ h=>by(cases h)}
end Go.Abs
namespace Go.Abs
open Go.Proofs Go.Memo
theorem aHs(H:aH):aR Tryz.prog 41 [] H λr H'=>r= .optr (H.length+1) 0/\H'=H++ [.obj (.mapg [] 0),nY 0 0 0 0 H.length]:=by
 refine aF (N:=4) Tryz.func41 rfl rfl zz λhb'=> ?_;refine aV (cF aA aD aB aC @nD TE) ?_;refine aV (aG ZS BO zZ aA aD aB (bR aC @nD TE)) ?_
 repeat refine wS ?_
 refine wT ⟨.inr rfl,_,rfl, ?_⟩;exact⟨rfl,by simp[nY,aE]⟩
theorem aG1(f:FuncId)(caps:List PV)(H:aH):aR Tryz.prog 21 [.fn (.func f) [] caps] H λr H'=>r= .optr (H.length+4) 0/\H'=H++ [.obj (.mapg [] 0),nY 0 0 0 0 H.length, .obj (.mapg [] 0), .obj (.mapg [] 0), .row [.fn (.func f) [] caps, .optr (H.length+1) 0, .mapp (H.length+2), .mapp (H.length+3), .nilfn,aE 0,aE 0]]:=by
 refine aF (N:=11) Tryz.func21 rfl rfl zz λhb'=> ?_;refine aV (aG aA aD aB aC sS TE @nD) ?_;refine eA 1 (aG aA aD aB aC sS TE @nD) ?_;refine rR (op:=.eql) rfl (.inl rfl) (bP eO) z7 Tryz.underlying69 (v:=false) (.inl ⟨dW eO,rfl⟩) ?_;refine oN ?_;refine pJ (aG aA aD aB aC sS TE @nD) ?_
 repeat refine wS ?_
 refine wK ?_;refine eA 1 (aG aA aD aB aC sS TE @nD) ?_;refine oC (dW eO) (bP eO) z7 aH9 (aHs _) ?_;rintro _ H1 ⟨rfl,rfl⟩;refine bH (aG y3 VU y88 rK fM aA (cF aD aB aC sS TE @nD)) ?_
 repeat refine wS ?_
 refine wT ⟨.inr rfl,_,rfl, ?_⟩;exact⟨rfl,by simp[aE]⟩
theorem tI{id:Nat}{H:aH}{v0 v1 v2 v3 v4 v6:PV}{n:Int}(h1:H[id]? =some (.row [v0,v1,v2,v3,v4,aE n,v6])):aR Tryz.prog 63 [.optr id 0] H λr' H'=>r'=aE n/\H'=H:=by
 simp only[aE]at h1;have h1L:=bU h1;refine eW (N:=7) Tryz.func63 rfl rfl zz (.int _ _) λhb'=> ?_;refine aV (cF aA aD aB aC h1 h1L) ?_;refine aV (aG y3 rK aA aD aB aC (aS h1 h1L)) ?_
 repeat refine wS ?_
 refine wT ⟨.inr rfl,_,_,rfl, ?_,sP⟩;simp only[jN,seval,aE,aA,aD,aB,aC]
end Go.Abs
namespace Go.Abs
open Go.Proofs Go.Memo
theorem aIg{cx:Cx}(hx:oA cx)(k:QK)(hk:k.1=0)(v:QV)(d:Nat)(hd:d<=2)(hv:v.nums.length<=rD)(loc:QK->Nat)(act:List QK)(st:St)(b:Bool)(G:eL)(H:aH)(hd0:∀q,(st.cell q).d<=2)(hnow:st.now<2^62)(hW:WR cx loc act st b G H):
  aR Tryz.prog 116 [.optr cx.ix.s 0,dQ k,qN v,aE (d:Int)] H (λr H'=>∃bb,r= .tup [.bool bb,aE 0]/\WR cx loc act (iZ k v d st) b G H'/\dE G G H H'):=by
 obtain⟨k1,k2,k3⟩:=k;simp only at hk;subst hk;have t14:(!decide ((0:Int)=0))=false:=zz
 have t20a:decide ((d:Int)<0)=false:=decide_eq_false z8;have t20b:decide ((d:Int)>=3)=false:=decide_eq_false z8;refine aF (N:=75) Tryz.func116 rfl rfl zz λhb'=> ?_;refine aV (aG iB nU aA aD aB aC (cF bG fY t14 t20a t20b tZ)) ?_;refine aV (aG y3 iB aA aD aB aC (cF bG fY t14 t20a t20b tZ)) ?_;refine pJ (aG aA aD aB aC bG fY (bD t14 t20a t20b tZ)) ?_
 repeat refine wS ?_
 refine wK ?_;refine tJ (aG y3 aA aD aB aC bG (bL fY t14 t20a t20b tZ)) ?_;refine pJ (aG aA aD aB aC bG fY (bD t14 t20a t20b tZ)) ?_
 repeat refine wS ?_
 refine wK ?_;refine dI (λHA=>WR cx loc act st b G HA/\dE G G H HA/\HA[H.length]? =some (.row [aE 0,aE k2,aE k3])/\HA[H.length+1]? =some (.row [.slice (v.nums.map aE) .none, .str v.text])/\HA.length=H.length+2) ⟨hW.app hx _,dE.app _ _ _ (hW.lt hx),zz,zz,zz⟩ ?_;rintro HA ⟨W1,f1,b5,b6,l1⟩;obtain⟨F1,D1,_,_,hG1,_⟩:=id W1;have hs1:=D1.sto;simp only[nY,aE]at hs1;obtain⟨ces,cclk,hc1,hcn,hcg⟩:=D1.cells;obtain⟨tl,gE⟩:=gz (hcg (0,k2,k3));have b5L:=bU b5;have b6L:=bU b6;have hs1L:=bU hs1;have hc1L:=bU hc1;have nG:∀id,H.length<=id->¬G id:=λid hid h=>by have:=hW.lt hx _ h;omega
 have ns:∀id,H.length<=id->id≠cx.ix.s:=λid hid e=>nG id hid (by rw[hG1];exact .inl (e▸D1.own.2.1));have nc:∀id,H.length<=id->id≠cx.ix.c:=λid hid e=>nG id hid (by rw[hG1];exact .inl (e▸D1.own.2.2.2.1));have hml:(st.cell (0,k2,k3)).val.nums.length<=maxLen:=by
  have em:maxLen=9223372036854775807:=z7
  have:=D1.okc (0,k2,k3);unfold rD at this;omega
 have hdd:decide (((st.cell (0,k2,k3)).d:Int)=(d:Int))=decide ((st.cell (0,k2,k3)).d=d):=by rw[decide_eq_decide];omega
 ·
  repeat refine wS ?_
  refine iU 1 (n0:=HA.length) (by first|rfl| (simp only[aNo,aM7,aOa,Nat.reduceAdd,aNn,dQ,qN,t14,t20a,t20b,Bool.or_self,b5,b6,b5L,b6L,hs1,hs1L,hc1,hc1L,gE,cD,t20a,t20b,hdd];done)) (by kernel_rfl) ?_;refine eP 6 (by first|rfl| (simp only[aNo,aM7,aOa,Nat.reduceAdd,aNn,dQ,qN,t14,t20a,t20b,Bool.or_self,b5,b6,b5L,b6L,hs1,hs1L,hc1,hc1L,gE,cD,t20a,t20b,hdd];done)) (DQ (aG iB ZS BO zZ aA aD (aG aB aC bG fY t14 t20a (aG t20b tZ b5 b6 b5L b6L (aG hs1 hs1L hc1 hc1L gE fJ hdd))))) z7 z7 z7 ?_;refine mR (by first| (simp only[LS,HS,aOe,aMl,aN7,dQ,qN,t14,t20a,t20b,Bool.or_self,b5,b6,b5L,b6L,hs1,hs1L,hc1,hc1L,gE,cD,t20a,t20b,hdd]<;>with_reducible rfl)|rfl) ?_;refine iO (bm:= [0,1,3,7,0,31,0,127]) (fresh:=(HA.length)) (by kernel_rfl) (JW (aG zZ aA aD aB aC bG (aG fY t14 t20a t20b tZ b5 (aG b6 b5L b6L hs1 hs1L hc1 (bD hc1L gE fJ hdd))))) z7 (by repeat (first|exact fT.base _|with_reducible apply fT.keep|apply fT.drop)) ?_;refine gQ [0,3,5,6,10] (aG aA aD aB aC bG fY (aG t14 t20a t20b tZ b5 b6 (aG b5L b6L hs1 hs1L hc1 hc1L (bR gE fJ hdd)))) ?_;refine dI (λHB=>HB.length=HA.length+1/\(∀id,id<HA.length->HB[id]? =HA[id]?)/\HB[HA.length]? =some (.row [.slice ((st.cell (0,k2,k3)).val.nums.map aE) tl, .str (st.cell (0,k2,k3)).val.text, .int .i64 ((st.cell (0,k2,k3)).c:Int), .int .i64 ((st.cell (0,k2,k3)).d:Int)])) ⟨zz,λid hid=>by simp[aM0 hid],by simp[aE]⟩ ?_;rintro HB ⟨l2,h2s,h2t⟩;have g5:=(h2s _ (lG b5)).trans b5;have g6:=(h2s _ (lG b6)).trans b6;have gs:=(h2s _ (lG hs1)).trans hs1;have gc:=(h2s _ (lG hc1)).trans hc1;have gw:IntKind.i64.wrap ((st.now:Int)+1)=((st.now+1:Nat):Int):=by rw[cL z8 z8];omega
  have hdk:=hd0 (0,k2,k3);have gm:max ((st.cell (0,k2,k3)).d:Int) (d:Int)=((max (st.cell (0,k2,k3)).d d:Nat):Int):=z8
  have gm1:IntKind.i64.wrap (((max (st.cell (0,k2,k3)).d d:Nat):Int)+1)=((max (st.cell (0,k2,k3)).d d+1:Nat):Int):=by rw[cL z8 z8];omega
  have vs2:(cx.ix.s=HB.length)=False:=by have:=lG gs;simp;omega
  have W2:WR cx loc act st b G HB:=W1.fr hx λid hi=>h2s id (W1.lt hx id hi);have f2:dE G G H HB:=f1.upd z8 λid hid=>h2s id z8
  ·
   repeat refine wS ?_
   refine wR ?_;refine eN ?_;refine yL 8 (aG y3 nU zZ aA aD aB (aG aC bG fY t14 t20a t20b (aG tZ b5 b6 b5L b6L hs1 (aG hs1L hc1 hc1L gE fJ hdd (aG g5 g6 gs gc h2t gw (bR gm gm1 vs2)))))) ?_;refine XI (aG aA aD aB aC bG fY (aG t14 t20a t20b tZ b5 b6 (aG b5L b6L hs1 hs1L hc1 hc1L (aG gE fJ hdd g5 g6 gs (cF gc h2t gw gm gm1 vs2))))) ZT (λhc=>SC (st.cell (0,k2,k3)).val.nums v.nums (st.cell (0,k2,k3)).val.text v.text hml _) ?_;refine DM (aG aA aD aB aC bG fY (aG t14 t20a t20b tZ b5 b6 (aG b5L b6L hs1 hs1L hc1 hc1L (aG gE fJ hdd g5 g6 gs (cF gc h2t gw gm gm1 vs2))))) ?_;refine gG (aG aA aD aB aC bG fY (aG t14 t20a t20b tZ b5 b6 (aG b5L b6L hs1 hs1L hc1 hc1L (aG gE fJ hdd g5 g6 gs (cF gc h2t gw gm gm1 vs2))))) (λbt36=> ?_) (λbt36=> ?_)
   ·
    have hsm:(st.cell (0,k2,k3)).d=d/\(st.cell (0,k2,k3)).val=v:=by
     simp only[aMj,decide_eq_true_eq]at bt36;obtain⟨h1,h2,h3⟩:=bt36;exact⟨h1,aAn _ _ h3 h2⟩
    have hset:iZ (0,k2,k3) v d st=st:=by unfold iZ;rw[if_pos hsm]
    refine aV (aG aA aD aB aC bG fY (aG t14 t20a t20b tZ b5 b6 (aG b5L b6L hs1 hs1L hc1 hc1L (aG gE fJ hdd g5 g6 gs (cF gc h2t gw gm gm1 vs2))))) ?_
    repeat refine wS ?_
    refine wT ⟨.inr rfl,_,(bI (.tmp 8) (.tmp 9) rfl (aM z7) (aM z7)), ?_⟩;exact⟨false,rfl,by rw[hset];exact W2,f2⟩
   ·
    have hsm:¬((st.cell (0,k2,k3)).d=d/\(st.cell (0,k2,k3)).val=v):=by
     rintro⟨h1,h2⟩;rw[<-h2]at bt36;simp[h1]at bt36
    repeat refine wS ?_
    refine wK ?_;refine aV (aG y3 BO aA aD aB aC (aG bG fY t14 t20a t20b tZ (aG b5 b6 b5L b6L hs1 hs1L (aG hc1 hc1L gE fJ hdd g5 (aG g6 gs gc h2t gw gm (aS gm1 vs2)))))) ?_;refine gQ [0,3,5,6,10] (aG aA aD aB aC bG fY (aG t14 t20a t20b tZ b5 b6 (aG b5L b6L hs1 hs1L hc1 hc1L (aG gE fJ hdd g5 g6 gs (cF gc h2t gw gm gm1 vs2))))) ?_;refine dI (λHC=>HC.length=HB.length/\(∀id,id≠cx.ix.s->HC[id]? =HB[id]?)/\HC[cx.ix.s]? =some (.row [aE ((st.now+1:Nat):Int),aE (((if 0<0 then st.now+1 else st.lc 0:Nat)):Int),aE (((if 1<0 then st.now+1 else st.lc 1:Nat)):Int),aE (((if 2<0 then st.now+1 else st.lc 2:Nat)):Int), .mapp cx.ix.c])) ⟨zz,λid hid=>aM5 (Ne.symm hid),by rw[aM4 (lG gs)];simp[aE]⟩ ?_;rintro HC ⟨l3,h3s,h3t⟩;have e10:=(h3s _ (λe=>ns _ z8 e)).trans h2t
    ·
     refine aV (aG y3 zZ aA aD aB aC (aG bG fY t14 t20a t20b tZ (aG b5 b6 b5L b6L hs1 hs1L (aG hc1 hc1L gE fJ hdd g5 (aG g6 gs gc h2t gw gm (bR gm1 vs2 e10)))))) ?_
     repeat refine wS ?_
     refine bJ ?_;refine fF (σ:=Nat) (λ(i:Nat)=> [(0, .optr cx.ix.s 0),(3,aE (d:Int)),(5, .optr H.length 0),(6, .optr (H.length+1) 0),(48,aE ((max (st.cell (0,k2,k3)).d d+1:Nat):Int)),(49,aE (i:Int))]) (λ(i:Nat)=>λH1=>i<=max (st.cell (0,k2,k3)).d d+1/\H1.length=HB.length/\(∀id,id≠cx.ix.s->H1[id]? =HB[id]?)/\H1[cx.ix.s]? =some (.row [aE ((st.now+1:Nat):Int),aE (((if 0<i then st.now+1 else st.lc 0:Nat)):Int),aE (((if 1<i then st.now+1 else st.lc 1:Nat)):Int),aE (((if 2<i then st.now+1 else st.lc 2:Nat)):Int), .mapp cx.ix.c])) (λ(i:Nat)=>max (st.cell (0,k2,k3)).d d+1-i) (0) ⟨(dJ (aG aA aD aB aC bG fY (aG t14 t20a t20b tZ b5 b6 (aG b5L b6L hs1 hs1L hc1 hc1L (aG gE fJ hdd g5 g6 gs (aG gc h2t gw gm gm1 vs2 e10)))))),(dJ (aG aA aD aB aC bG fY (aG t14 t20a t20b tZ b5 b6 (aG b5L b6L hs1 hs1L hc1 hc1L (aG gE fJ hdd g5 g6 gs (aG gc h2t gw gm gm1 vs2 e10)))))),(dJ (aG aA aD aB aC bG fY (aG t14 t20a t20b tZ b5 b6 (aG b5L b6L hs1 hs1L hc1 hc1L (aG gE fJ hdd g5 g6 gs (aG gc h2t gw gm gm1 vs2 e10)))))),(dJ (aG aA aD aB aC bG fY (aG t14 t20a t20b tZ b5 b6 (aG b5L b6L hs1 hs1L hc1 hc1L (aG gE fJ hdd g5 g6 gs (aG gc h2t gw gm gm1 vs2 e10)))))),(dJ (aG aA aD aB aC bG fY (aG t14 t20a t20b tZ b5 b6 (aG b5L b6L hs1 hs1L hc1 hc1L (aG gE fJ hdd g5 g6 gs (aG gc h2t gw gm gm1 vs2 e10)))))),(dJ (aG aA aD aB aC bG fY (aG t14 t20a t20b tZ b5 b6 (aG b5L b6L hs1 hs1L hc1 hc1L (aG gE fJ hdd g5 g6 gs (aG gc h2t gw gm gm1 vs2 e10)))))),trivial⟩ (⟨aNs _,l3,h3s,h3t⟩) ?_;intro i H1 hg;obtain⟨hi,gl,gf,gs3⟩:=hg;have gs3:H1[cx.ix.s]? =some (.row [.int .i64 _, .int .i64 _, .int .i64 _, .int .i64 _,_]):=gs3;have p5:=(gf _ (ns _ z8)).trans g5;have p6:=(gf _ (ns _ z8)).trans g6;have pc:=(gf _ (Ne.symm D1.ne.2.2.2.2.2.1)).trans gc;have p10:=(gf _ (ns _ z8)).trans h2t;have vs1:(cx.ix.s=H1.length)=False:=by have:=lG gs3;simp;omega
     have vc1:(cx.ix.c=H1.length)=False:=by have:=lG pc;simp;omega
     have gj:IntKind.i64.wrap ((i:Int)+1)=((i+1:Nat):Int):=by rw[cL z8 z8];omega
     have glt:decide ((i:Int)<((max (st.cell (0,k2,k3)).d d+1:Nat):Int))=decide (i<max (st.cell (0,k2,k3)).d d+1):=by rw[decide_eq_decide];omega
     refine aV (aG y3 aA aD aB aC bG (aG fY t14 t20a t20b tZ b5 (aG b6 b5L b6L hs1 hs1L hc1 (aG hc1L gE fJ hdd g5 g6 (aG gs gc h2t gw gm gm1 (aG vs2 e10 gs3 gj glt p5 (bR p6 pc p10))))))) ?_;refine gG (aG aA aD aB aC bG fY (aG t14 t20a t20b tZ b5 b6 (aG b5L b6L hs1 hs1L hc1 hc1L (aG gE fJ hdd g5 g6 gs (aG gc h2t gw gm gm1 vs2 (aG e10 gs3 gj glt p5 p6 (aS pc p10))))))) (λbt50=> ?_) (λbt50=> ?_)
     ·
      have hx50:=bt50
      repeat refine wS ?_
      refine wK ?_
      repeat refine wS ?_
      refine bJ ?_;refine aV (aG aA aD aB aC bG fY (aG t14 t20a t20b tZ b5 b6 (aG b5L b6L hs1 hs1L hc1 hc1L (aG gE fJ hdd g5 g6 gs (aG gc h2t gw gm gm1 vs2 (aG e10 gs3 gj glt p5 p6 (aS pc p10))))))) ?_;have hi2:i=0\/i=1\/i=2:=by simp at bt50;omega
      have him:i<max (st.cell (0,k2,k3)).d d+1:=by simpa using bt50
      rcases hi2 with rfl|rfl|rfl
      ·
       repeat refine wS ?_
       refine dV 0 (by kernel_rfl) ?_;refine eZ 8 (bm:= [0,0,0,4,12,28,1,65,255,511]) (by kernel_rfl) z7 (by kernel_rfl) (by kernel_rfl) ?_;refine iI (aG y3 BO aA aD aB aC gs3) ?_;refine gJ (k:=8) (bm:= [0,0,0,4,12,28,1,65,255,511]) (by kernel_rfl) rfl (by kernel_rfl) (by kernel_rfl) ?_;refine uG (k:=0) (off:=1) (id:=cx.ix.s) rfl (dW eO) z7 (n:=3) (e:=3) (i:=⟨false,1,8⟩) (by kernel_rfl) (dW eO) (dW eO) z7 ?_;refine oN ?_;show iP _ _ _ _ _ _ _ _;refine tO 1 (bm:= [0,0,0,4,12,28,1,65,255,511]) (by kernel_rfl) z7 (by kernel_rfl) (by kernel_rfl) ?_;refine pR (bm:= [0,0,0,4,12,28,1,65,255,511]) (fresh:=H1.length) (by kernel_rfl) (EY (aG y3 aA aD aB aC gs3 vs1)) z7 ?_;refine eV ?_;refine aV (aG y3 aA aD aB aC bG (aG fY t14 t20a t20b tZ b5 (aG b6 b5L b6L hs1 hs1L hc1 (aG hc1L gE fJ hdd g5 g6 (aG gs gc h2t gw gm gm1 (aG vs2 e10 gs3 gj glt p5 (bR p6 pc p10))))))) ?_
       try simp only[bQ,cB]
       exact⟨1,by show _<_;omega,(by repeat (first|exact trivial|refine⟨rfl, ?_⟩)),z8,by simp[gl],λid hid=>by rw[aM5 (Ne.symm hid)];exact gf id hid,by rw[aM4 (lG gs3)];simp⟩
      ·
       repeat refine wS ?_
       refine dV 0 (by kernel_rfl) ?_;refine eZ 8 (bm:= [0,0,0,4,12,28,1,65,255,511]) (by kernel_rfl) z7 (by kernel_rfl) (by kernel_rfl) ?_;refine iI (aG y3 BO aA aD aB aC gs3) ?_;refine gJ (k:=8) (bm:= [0,0,0,4,12,28,1,65,255,511]) (by kernel_rfl) rfl (by kernel_rfl) (by kernel_rfl) ?_;refine uG (k:=1) (off:=1) (id:=cx.ix.s) rfl (dW eO) z7 (n:=3) (e:=3) (i:=⟨false,1,8⟩) (by kernel_rfl) (dW eO) (dW eO) z7 ?_;refine oN ?_;show iP _ _ _ _ _ _ _ _;refine tO 1 (bm:= [0,0,0,4,12,28,1,65,255,511]) (by kernel_rfl) z7 (by kernel_rfl) (by kernel_rfl) ?_;refine pR (bm:= [0,0,0,4,12,28,1,65,255,511]) (fresh:=H1.length) (by kernel_rfl) (EY (aG y3 aA aD aB aC gs3 vs1)) z7 ?_;refine eV ?_;refine aV (aG y3 aA aD aB aC bG (aG fY t14 t20a t20b tZ b5 (aG b6 b5L b6L hs1 hs1L hc1 (aG hc1L gE fJ hdd g5 g6 (aG gs gc h2t gw gm gm1 (aG vs2 e10 gs3 gj glt p5 (bR p6 pc p10))))))) ?_
       try simp only[bQ,cB]
       exact⟨2,by show _<_;omega,(by repeat (first|exact trivial|refine⟨rfl, ?_⟩)),z8,by simp[gl],λid hid=>by rw[aM5 (Ne.symm hid)];exact gf id hid,by rw[aM4 (lG gs3)];simp⟩
      ·
       repeat refine wS ?_
       refine dV 0 (by kernel_rfl) ?_;refine eZ 8 (bm:= [0,0,0,4,12,28,1,65,255,511]) (by kernel_rfl) z7 (by kernel_rfl) (by kernel_rfl) ?_;refine iI (aG y3 BO aA aD aB aC gs3) ?_;refine gJ (k:=8) (bm:= [0,0,0,4,12,28,1,65,255,511]) (by kernel_rfl) rfl (by kernel_rfl) (by kernel_rfl) ?_;refine uG (k:=2) (off:=1) (id:=cx.ix.s) rfl (dW eO) z7 (n:=3) (e:=3) (i:=⟨false,1,8⟩) (by kernel_rfl) (dW eO) (dW eO) z7 ?_;refine oN ?_;show iP _ _ _ _ _ _ _ _;refine tO 1 (bm:= [0,0,0,4,12,28,1,65,255,511]) (by kernel_rfl) z7 (by kernel_rfl) (by kernel_rfl) ?_;refine pR (bm:= [0,0,0,4,12,28,1,65,255,511]) (fresh:=H1.length) (by kernel_rfl) (EY (aG y3 aA aD aB aC gs3 vs1)) z7 ?_;refine eV ?_;refine aV (aG y3 aA aD aB aC bG (aG fY t14 t20a t20b tZ b5 (aG b6 b5L b6L hs1 hs1L hc1 (aG hc1L gE fJ hdd g5 g6 (aG gs gc h2t gw gm gm1 (aG vs2 e10 gs3 gj glt p5 (bR p6 pc p10))))))) ?_
       try simp only[bQ,cB]
       exact⟨3,by show _<_;omega,(by repeat (first|exact trivial|refine⟨rfl, ?_⟩)),z8,by simp[gl],λid hid=>by rw[aM5 (Ne.symm hid)];exact gf id hid,by rw[aM4 (lG gs3)];simp⟩
     ·
      have hx50:=bt50
      repeat refine wS ?_
      refine dO ?_;simp only[bQ,cB,reduceIte,Nat.reduceEqDiff,aOf,if_true,if_false]
      repeat refine wS ?_
      refine iU 0 (n0:=H1.length) (by first|rfl| (simp only[aNo,aM7,aOa,Nat.reduceAdd,aNn,dQ,qN,t14,t20a,t20b,Bool.or_self,b5,b6,b5L,b6L,hs1,hs1L,hc1,hc1L,gE,cD,t20a,t20b,hdd,g5,g6,gs,gc,h2t,gw,gm,gm1,vs2,e10,gs3,gj,glt,p5,p6,pc,p10,dG,aNv,vc1];done)) (by kernel_rfl) ?_;refine eP 6 (by first|rfl| (simp only[aNo,aM7,aOa,Nat.reduceAdd,aNn,dQ,qN,t14,t20a,t20b,Bool.or_self,b5,b6,b5L,b6L,hs1,hs1L,hc1,hc1L,gE,cD,t20a,t20b,hdd,g5,g6,gs,gc,h2t,gw,gm,gm1,vs2,e10,gs3,gj,glt,p5,p6,pc,p10,dG,aNv,vc1];done)) (DQ (aG iB nU ZS BO zZ aA (aG aD aB aC bG fY t14 (aG t20a t20b tZ b5 b6 b5L (aG b6L hs1 hs1L hc1 hc1L gE (aG fJ hdd g5 g6 gs gc (aG h2t gw gm gm1 vs2 e10 (aG gs3 gj glt p5 p6 pc (bD p10 oF @nD vc1))))))))) z7 z7 z7 ?_;refine wN (by first|rfl| (simp only[aNo,aM7,aOa,Nat.reduceAdd,aNn,dQ,qN,t14,t20a,t20b,Bool.or_self,b5,b6,b5L,b6L,hs1,hs1L,hc1,hc1L,gE,cD,t20a,t20b,hdd,g5,g6,gs,gc,h2t,gw,gm,gm1,vs2,e10,gs3,gj,glt,p5,p6,pc,p10,dG,aNv,vc1];done)) (zN (aG aA aD aB aC bG fY (aG t14 t20a t20b tZ b5 b6 (aG b5L b6L hs1 hs1L hc1 hc1L (aG gE fJ hdd g5 g6 gs (aG gc h2t gw gm gm1 vs2 (aG e10 gs3 gj glt p5 p6 (bL pc p10 oF @nD vc1)))))))) (zN (aG aA aD aB aC bG fY (aG t14 t20a t20b tZ b5 b6 (aG b5L b6L hs1 hs1L hc1 hc1L (aG gE fJ hdd g5 g6 gs (aG gc h2t gw gm gm1 vs2 (aG e10 gs3 gj glt p5 p6 (bL pc p10 oF @nD vc1)))))))) (TP (aG aA aD aB aC bG fY (aG t14 t20a t20b tZ b5 b6 (aG b5L b6L hs1 hs1L hc1 hc1L (aG gE fJ hdd g5 g6 gs (aG gc h2t gw gm gm1 vs2 (aG e10 gs3 gj glt p5 p6 (bL pc p10 oF @nD vc1)))))))) z7 YS (λhc L=>QZ v.nums v.text (UG hv) _) ?_;refine eP 6 (by first|rfl| (simp only[aNo,aM7,aOa,Nat.reduceAdd,aNn,dQ,qN,t14,t20a,t20b,Bool.or_self,b5,b6,b5L,b6L,hs1,hs1L,hc1,hc1L,gE,cD,t20a,t20b,hdd,g5,g6,gs,gc,h2t,gw,gm,gm1,vs2,e10,gs3,gj,glt,p5,p6,pc,p10,dG,aNv,vc1];done)) (DQ (aG y3 BO zZ aA aD aB (aG aC bG fY t14 t20a t20b (aG tZ b5 b6 b5L b6L hs1 (aG hs1L hc1 hc1L gE fJ hdd (aG g5 g6 gs gc h2t gw (aG gm gm1 vs2 e10 gs3 gj (aG glt p5 p6 pc p10 oF (aS @nD vc1))))))))) z7 z7 z7 ?_;refine mR (by first| (simp only[LS,HS,aOe,aMl,aN7,dQ,qN,t14,t20a,t20b,Bool.or_self,b5,b6,b5L,b6L,hs1,hs1L,hc1,hc1L,gE,cD,t20a,t20b,hdd,g5,g6,gs,gc,h2t,gw,gm,gm1,vs2,e10,gs3,gj,glt,p5,p6,pc,p10,dG,aNv,vc1]<;>with_reducible rfl)|rfl) ?_;refine iO (bm:= [0,1,3,7,0,0,32,0,128,384,896,0,4064,8191]) (fresh:=(H1.length)) (by kernel_rfl) (JW (aG ZS zZ aA aD aB aC (aG bG fY t14 t20a t20b tZ (aG b5 b6 b5L b6L hs1 hs1L (aG hc1 hc1L gE fJ hdd g5 (aG g6 gs gc h2t gw gm (aG gm1 vs2 e10 gs3 gj glt (aG p5 p6 pc p10 oF @nD vc1)))))))) z7 (by repeat (first|exact fT.base _|with_reducible apply fT.keep|apply fT.drop)) ?_;refine aV (aG aA aD aB aC bG fY (aG t14 t20a t20b tZ b5 b6 (aG b5L b6L hs1 hs1L hc1 hc1L (aG gE fJ hdd g5 g6 gs (aG gc h2t gw gm gm1 vs2 (aG e10 gs3 gj glt p5 p6 (aS pc p10))))))) ?_
      repeat refine wS ?_
      refine wT ⟨.inr rfl,_,(bI (.tmp 8) (.tmp 9) rfl (aM z7) (aM z7)), ?_⟩;have hie:i=max (st.cell (0,k2,k3)).d d+1:=by simp at hx50;omega
      have hst:iZ (0,k2,k3) v d st= {st with now:=st.now+1,lc:=λi=>if i<=max (st.cell (0,k2,k3)).d d then st.now+1 else st.lc i,cell:=λq=>if q=(0,k2,k3)then⟨v,st.now+1,d⟩else st.cell q}:=by
       unfold iZ;rw[if_neg hsm]
      obtain⟨w3,f3⟩:=W2.upd hx (act':=act) (st':=iZ (0,k2,k3) v d st) (H':=H1.set cx.ix.c (.obj (.mapg (sE ces cclk (0,k2,k3) (zJ ⟨v,st.now+1,d⟩)) (vS ces cclk (0,k2,k3))))) (by simp[gl]) λF D=>by
       obtain⟨d1,d2⟩:=D.seti (0,k2,k3) v d hsm hv gc;have hns:cx.ix.s≠cx.ix.c:=D.ne.2.2.2.2.2.1;have hE:∀id,(H1.set cx.ix.c (.obj (.mapg (sE ces cclk (0,k2,k3) (zJ ⟨v,st.now+1,d⟩)) (vS ces cclk (0,k2,k3)))))[id]? =((HB.set cx.ix.s (nY ((st.now+1:Nat):Int) ((iZ (0,k2,k3) v d st).lc 0) ((iZ (0,k2,k3) v d st).lc 1) ((iZ (0,k2,k3) v d st).lc 2) cx.ix.c)).set cx.ix.c (.obj (.mapg (sE ces cclk (0,k2,k3) (zJ ⟨v,st.now+1,d⟩)) (vS ces cclk (0,k2,k3)))))[id]? :=λid=>by
        by_cases h1:id=cx.ix.c
        ·subst h1;rw[aM4 (lG pc),aM4 (by simpa using lG gc)]
        ·rw[aM5 (Ne.symm h1),aM5 (Ne.symm h1)]
         by_cases h2:id=cx.ix.s
         ·subst h2;rw[aM4 (lG gs),gs3,hst];simp only[nY,aE,hie,Nat.lt_succ_iff]
         ·rw[aM5 (Ne.symm h2)];exact gf id h2
       exact⟨d1.fr λid _=>hE id,λid hn=>(hE id).trans (d2 id hn)⟩
      exact⟨true,rfl,w3,f2.trans f3⟩
end Go.Abs
namespace Go.Abs
open Go.Proofs Go.Memo
theorem aKb{cx:Cx}(hx:oA cx)(k:QK)(hk:k.1=0)(v:QV)(d:Nat)(hd:d<=2)(hv:v.nums.length<=rD)(loc:QK->Nat)(act:List QK)(st:St)(b:Bool)(G:eL)(H:aH)(hd0:∀q,(st.cell q).d<=2)(hnow:st.now<2^62)(hW:WR cx loc act st b G H):
  aR Tryz.prog 100 [.optr cx.ix.d 0,dQ k,qN v,aE (d:Int)] H (λr H'=>r=aE 0/\WR cx loc act (iZ k v d st) b G H'/\dE G G H H'):=by
 obtain⟨k1,k2,k3⟩:=k;refine aF (N:=23) Tryz.func100 rfl rfl zz λhb'=> ?_;refine aV (aG iB nU aA aD aB aC (aS bG fY)) ?_;refine dI (λHA=>WR cx loc act st b G HA/\dE G G H HA/\HA[H.length]? =some (.row [aE k1,aE k2,aE k3])/\HA[H.length+1]? =some (.row [.slice (v.nums.map aE) .none, .str v.text])) ⟨hW.app hx _,dE.app _ _ _ (hW.lt hx),zz,zz⟩ ?_;rintro HA ⟨WA,fA,b5,b6⟩;obtain⟨F1,D1,_⟩:=id WA;obtain⟨clock1,hd1⟩:=D1.db
 ·
  repeat refine wS ?_
  refine dV 0 (by kernel_rfl) ?_;refine eZ 7 (bm:= [0,1,3,7,0,0,0,127,255,511,511,1023,4095]) (by kernel_rfl) z7 (by kernel_rfl) (by kernel_rfl) ?_;refine iI (aG iB nU y85 rK aA aD (aG aB aC b5 b6 hd1 bG fY)) ?_;refine gJ (k:=7) (bm:= [0,1,3,7,0,0,0,127,255,511,511,1023,4095]) (by kernel_rfl) rfl (by kernel_rfl) (by kernel_rfl) ?_;refine oW (aG aA aD aB aC b5 b6 (bR hd1 bG fY)) aG5 (show aR Tryz.prog 116 [.optr cx.ix.s 0, .agg [.int .i64 k1, .int .i64 k2, .int .i64 k3], .agg [.slice (v.nums.map λn=>PV.int .i64 n) .none, .str v.text], .int .i64 (d:Int)] HA _ from aIg hx (k1,k2,k3) hk v d hd hv loc act st b G HA hd0 hnow WA) ?_;rintro _ HB ⟨bb,rfl,wB,fB⟩;refine oN ?_;show iP _ _ _ _ _ _ _ _;refine tO 5 (bm:= [0,1,3,7,0,0,0,127,255,511,511,1023,4095]) (by kernel_rfl) z7 (by kernel_rfl) (by kernel_rfl) ?_;refine pR (bm:= [0,1,3,7,0,0,0,127,255,511,511,1023,4095]) (fresh:=0) (by kernel_rfl) (EY (aG aA aD aB aC b5 b6 (bR hd1 bG fY))) z7 ?_;refine eV ?_;refine gQ [10] (aG aA aD aB aC bG fY (bR b5 b6 hd1)) ?_;refine aV (aG aA aD aB aC bG fY (bR b5 b6 hd1)) ?_
  repeat refine wS ?_
  refine wT ⟨.inr rfl,_,rfl, ?_⟩;exact⟨rfl,wB,fA.trans fB⟩
theorem YD{cx:Cx}(hx:oA cx)(k:QK)(loc:QK->Nat)(act:List QK)(st:St)(b:Bool)(G:eL)(H:aH)(hW:WR cx loc act st b G H):
  aR Tryz.prog 67 [.optr cx.ix.d 0,dQ k] H (λr H'=>∃bb,r= .bool bb/\WR cx loc act {st with res:=eQ st.res k none} b G H'/\dE G G H H'):=by
 obtain⟨k1,k2,k3⟩:=k;refine aF (N:=22) Tryz.func67 rfl rfl zz λhb'=> ?_;refine aV (cF iB aA aD aB aC bG) ?_;refine dI (λHA=>WR cx loc act st b G HA/\dE G G H HA/\HA[H.length]? =some (.row [aE k1,aE k2,aE k3])) ⟨hW.app hx _,dE.app _ _ _ (hW.lt hx),zz⟩ ?_;rintro HA ⟨WA,fA,b3⟩;obtain⟨F1,D1,_⟩:=id WA;obtain⟨clock1,hd1⟩:=D1.db;obtain⟨es,clk,hm1,hgn,hgg⟩:=D1.res;obtain⟨xx,bb,gE⟩:∃xx bb,oD true .nilp (gP es (k1,k2,k3))= .tup [xx, .bool bb]:=by
  rw[hgg];cases st.res (k1,k2,k3)<;>exact⟨_,_,rfl⟩
 ·
  repeat refine wS ?_
  refine eJ (by kernel_rfl) ?_;refine iI (aG iB VU rK fM aA aD (aG aB aC bG b3 hd1 hm1 (aS gE fJ))) ?_
  repeat refine wS ?_
  refine dV 0 (by kernel_rfl) ?_;refine eZ 5 (bm:= [0,1,3,7,0,31]) (by kernel_rfl) z7 (by kernel_rfl) (by kernel_rfl) ?_;refine iI (aG iB VU rK fM aA aD (cF aB aC b3 hd1 hm1 bG)) ?_;refine gJ (k:=5) (bm:= [0,1,3,7,0,31]) (by kernel_rfl) rfl (by kernel_rfl) (by kernel_rfl) ?_;refine MV rfl (bP (aG aA aD aB aC b3 hd1 (aS hm1 bG))) z7 (by simp[KE]) (DT (aG aA aD aB aC b3 hd1 (aS hm1 bG))) (DT (aG aA aD aB aC b3 hd1 (aS hm1 bG))) hm1 ?_;refine oN ?_;show iP _ _ _ _ _ _ _ _;refine eV ?_;refine gQ [6] (aG aA aD aB aC bG b3 (bD hd1 hm1 gE fJ)) ?_;refine aV (aG aA aD aB aC bG b3 (bD hd1 hm1 gE fJ)) ?_
  repeat refine wS ?_
  refine wT ⟨.inr rfl,_,rfl, ?_⟩;obtain⟨w2,f2⟩:=WA.upd hx (act':=act) (st':= {st with res:=eQ st.res (k1,k2,k3) none}) (H':=HA.set cx.ix.m (.obj (.mapg (uU es (k1,k2,k3)) clk))) zz λF D=>⟨D.forget _ hm1,λid hn=>aM5 (by rintro rfl;exact hn D.own.2.2.1)⟩;exact⟨bb,rfl,w2,fA.trans f2⟩
end Go.Abs
namespace Go.Abs
open Go.Proofs Go.Memo Go.RowKit
def aK.fixAll(E:aK)(w':World):aK:= {E with w:=w',κ:=λb=>if b<E.w.heap.size then E.κ b else .fixed}
theorem aK.fixAll_view{E:aK}(h:E.Ok){w':World}(hb:Below E.w.heap.size E.w w'):E.view.le (E.fixAll w').view:=by
 refine⟨λa v hc=> ?_,λid hb=>hb,λ_ _=>rfl,λid t' hbn ht=>⟨t', ?_, .inl rfl⟩⟩
 ·have hw:=aK.cell_stable hc;have hl:=cell?_lt hw;simp only[aK.view]at hc⊢
  split at hc
  ·rename_i hs;simp only[aK.fixAll,if_pos hl,hs,if_true];rw[cell?_congr (hb.block _ hl)];exact hc
  ·cases hc
 ·simp only[aK.view,aK.fixAll]at ht⊢
  split at ht
  ·rename_i n sz hi;rw[<-ht];cases htb:E.tb id with
   |none=>rfl
   |some b=>
    have:=h.bufBlock hi htb;simp only[aM3,if_pos this]
  ·cases ht
theorem aK.fixAll_le{E:aK}(h:E.Ok){w':World}(hb:Below E.w.heap.size E.w w'):E.le (E.fixAll w'):=
 ⟨hb.os,hb.tape,hb.output,hb.size,λb hl _=>⟨by simp only[aK.fixAll,if_pos hl],hb.block b hl⟩,aK.fixAll_view h hb,λb _=>id⟩
theorem aK.Ok.fixAll{E:aK}(h:E.Ok){w':World}(hb:Below E.w.heap.size E.w w'):(E.fixAll w').Ok:=by
 have hview:=aK.fixAll_view h hb;refine⟨?_, ?_,h.injr,h.injb,h.globs_of hview.cell λ_ _ _ hi=>hi,h.objs.of hview λid k hi=>⟨hi,rfl,hb.block _ (h.objs.lt hi),by simp only[aK.fixAll,if_pos (h.objs.lt hi)]⟩⟩
 ·intro id cs hi;have hl:=h.rowBlock hi;obtain⟨arr,elem,h1,h2,h3,h4⟩:=h.rows id cs hi;exact⟨arr,elem,(hb.block _ hl).trans h1,h2,λi hl=>(h3 i hl).mono hview,by simp only[aK.fixAll];rw[if_pos hl];exact h4⟩
 ·intro id n sz b hi hb';have hl:=h.bufBlock hi hb';obtain⟨arr,elem,pos,h1,h2⟩:=h.bufs id n sz b hi hb';exact⟨arr,elem,pos,(hb.block _ hl).trans h1,by simp only[aK.fixAll];rw[if_pos hl];exact h2⟩
theorem MU{P:Program}{f:FuncId}{args:List PV}{H:aH}{Q:PV->Prop}(h:∀(E:aK) (vargs:Array Value),E.Ok->E.H=H->RL E.view vargs args->Calls P f vargs E.w λe w'=>∃v,e= .returned v/\Below E.w.heap.size E.w w'/\∃r,Q r/\aQ (E.fixAll w').view v r):aR P f args H λr' H'=>Q r'/\H'=H:=by
 intro E vargs ho hH hrl;refine(h E vargs ho hH hrl).mono ?_;rintro e w' ⟨v,rfl,hb,r,hq,hv⟩;exact⟨E.fixAll w',v,r,rfl,rfl,aK.fixAll_le ho hb,ho.fixAll hb,hv,hq,hH⟩
theorem UZ{E:aK}{w':World}{v:Value}{ks:List KQ}(hk:HV E.w.heap.size v ks w'):aQ (E.fixAll w').view v (.slice (ks.map dQ) .none):=by
 rcases hk with⟨rfl,rfl⟩| ⟨g,cap,cur,rfl,hg,hc,h1,h2,h3⟩
 ·exact .nils _ trivial
 ·have hadd:∀n,(⟨g,0,none⟩:Addr).add n=⟨g,n,none⟩:=by
   intro n;unfold Addr.add;split
   ·rename_i e;subst e;rfl
   ·simp
  refine .slice _ _ _ 3 _ _ (λi j=>([Value.int .i64 (ks.getD i (0,0,0)).1, .int .i64 (ks.getD i (0,0,0)).2.1, .int .i64 (ks.getD i (0,0,0)).2.2]).getD j undef) zz h1 h2 ?_ ?_ ?_ trivial
  ·intro i hi;simp only[aMm];rfl
  ·intro i j hi hj;rw[hadd];have hgl:¬g<E.w.heap.size:=z8
   simp only[aK.view,aK.fixAll,if_neg hgl,rN.stable,if_true];unfold World.cell?;rw[hc];have:=h3 i j hi hj;simp only[Option.isSome_none,aNh,if_false,this];rw[aNj,aNj,aNi hi,aMz]
   match j,hj with
   |0,_=>rfl
   |1,_=>rfl
   |2,_=>rfl
  ·intro i j hi hj;simp only[aMm]at hj⊢;have hi':i<ks.length:=by simpa using hi
   rw[aNj (l:=ks),aNi hi',aMz];have hj3:j<3:=hj
   match j,hj3 with
   |0,_=>exact .int _ _
   |1,_=>exact .int _ _
   |2,_=>exact .int _ _
theorem GU{α:Type}[BEq α][LawfulBEq α]:∀(l L:List α),l.Nodup->(∀x∈l,x∈L)->l.length<=L.length
 | [],L,_,_=>aNs _
 |x::l,L,hn,hs=>by
  obtain⟨h1,h2⟩:=List.nodup_cons.1 hn;have hx:=hs x zz;have:=GU l (L.erase x) h2 λy hy=>(List.mem_erase_of_ne (by rintro rfl;exact h1 hy)).2 (hs y (aOg _ hy));rw[List.length_erase_of_mem hx]at this;have:=List.length_pos_of_mem hx;simp only[aM7];omega
theorem yC{V:cG}:∀ {ms:List MapEntry} {es:List GE},kH V ms es->ms.map (·.born)=es.map (·.1)
 | [],[],_=>rfl
 |m::ms,e::es,h=>by simp only[aNl,h.1,yC h.2.2.2]
 | [],_::_,h=>h.elim
 |_::_,[],h=>h.elim
theorem ES:∀(es:List GE) (x:GE) (j:Nat),(es.map (·.2.1)).Nodup->x∈es->∃i,iH es x.2.1 j=some (i,x.1,x.2.2)
 |e::es,x,j,hn,hx=>by
  simp only[aNl,List.nodup_cons]at hn;rcases aN2.1 hx with rfl|hx
  ·exact⟨j,by simp[iH]⟩
  ·obtain⟨i,h⟩:=ES es x (j+1) hn.2 hx;refine⟨i, ?_⟩;rw[iH,if_neg (λe1=>hn.1 (by rw[<-e1];exact aNy.2 ⟨x,hx,rfl⟩))];exact h
theorem XT{cx:Cx}(loc:QK->Nat)(act:List QK)(st:St)(b:Bool)(G:eL)(H:aH)(hclk:st.clk<4611686018427387904)(hfin:∃Ks:List QK,Ks.length<=1000000/\∀k r,st.res k=some r->k∈Ks)(hW:WR cx loc act st b G H):
  aR Tryz.prog 66 [.optr cx.ix.d 0] H λr' H'=>(∃ks:List QK,r'= .slice (ks.map dQ) .none/\ks.length<=1000000)/\H'=H:=by
 obtain⟨F,D,_⟩:=hW;obtain⟨clock,hd⟩:=D.db;obtain⟨es,clk,hm,hgn,hgg⟩:=D.res;refine MU λE vargs ho hH hrl=> ?_;subst hH;have hv:vargs= #[.pointer (some ⟨E.ρ cx.ix.d,0,none⟩)]:=by
  obtain⟨hs,hv⟩:=hrl;have v0:aQ E.view (vargs.getD 0 undef) (.optr cx.ix.d 0):=hv 0 zz;have e0:vargs.getD 0 undef= .pointer (some ⟨E.ρ cx.ix.d,0,none⟩):=v0.optr_inv.1;refine Array.ext (by simpa using hs) λi hi hi'=> ?_;obtain rfl:i=0:=by simp at hi';omega
  simpa[Array.getD,hs]using e0
 subst hv;obtain⟨arr,elem,r1,r2,r3,r4⟩:=ho.rows cx.ix.d _ hd;have hc2:E.w.cell? ⟨E.ρ cx.ix.d,2,none⟩=some (.map (some (E.ρ cx.ix.m))):=by
  have ha:2<arr.size:=by simp at r2;omega
  rw[kF r1,aMy ha];have h2:=r3 2 zz;rw[aMt,aMy ha,aMz]at h2;have h2:aQ E.view arr[2] (.mapp cx.ix.m):=h2;generalize arr[2]=q at h2;cases h2;rfl
 obtain⟨⟨o,b1,b2⟩,_⟩:=ho.objs.at_ cx.ix.m _ hm;obtain⟨ms,rfl,hgr,hgo⟩:=b2;have hkn:(es.map (·.2.1)).Nodup:=hgn;obtain⟨Ks,hKl,hK⟩:=hfin;have hget:∀x∈es,gP es x.2.1=some x.2.2:=λx hx=>by
  obtain⟨i,h⟩:=ES es x 0 hkn hx;unfold gP;rw[h];rfl
 have hlen:ms.length<=1000000:=by
  rw[kH.length hgr,<-aMw (f:=(·.2.1))];refine aMr (GU _ Ks hkn λk hk=> ?_) hKl;obtain⟨x,hx,rfl⟩:=aNy.1 hk;have h1:=hgg x.2.1;rw[hget x hx]at h1;cases hr:st.res x.2.1 with
  |none=>rw[hr]at h1;cases h1
  |some r=>exact hK _ r hr
 have hbl:=ho.rowBlock hd;have hbm:=(aOk.1 b1).1;refine(aAk (V:=E.view) (es:=es) (ms:=ms) (mb:=E.ρ cx.ix.m) (clk:=clk) (λw' Bd hw hB=> ?_) hc2 hlen ?_ ?_).mono ?_
 ·have hcw:∀ {p:Addr} {v:Value},E.w.cell? p=some v->w'.cell? p=some v:=λ{p v} hp=>by
   have:=hw p.block (cell?_lt hp);unfold World.cell? at hp⊢;rw[this];exact hp
  refine⟨hB,hcw hc2,(hw _ hbm).trans b1,hgr,λx hx=> ?_⟩;have h1:=hgg x.2.1;rw[hget x hx]at h1;cases hr:st.res x.2.1 with
  |none=>rw[hr]at h1;cases h1
  |some r=>
   rw[hr]at h1;injection h1 with h1;obtain⟨⟨tl,lu,hrow⟩,_⟩:=D.recs _ r hr;obtain⟨m,hm1,hm2⟩:=D.lus _ r tl lu hr hrow;refine⟨x.2.2,hget x hx,E.ρ (loc x.2.1),lu,λu hu=> ?_,hcw ?_, ?_⟩
   ·rw[h1]at hu;exact hu.optr_inv.1
   ·obtain⟨arr2,elem2,s1,s2,s3,s4⟩:=ho.rows _ _ hrow;have ha:6<arr2.size:=by simp[oR]at s2;omega
    rw[kF s1,aMy ha];have h2:=s3 6 (by simp[oR]);rw[aMt,aMy ha,aMz]at h2;have h2:aQ E.view arr2[6] (.int .i64 lu):=h2;rw[h2.int_inv]
   ·rw[hm2];unfold Memo.wrap64;omega
 ·intro x hx;have hx:x∈ms:=by simpa using hx
  have:x.born∈es.map (·.1):=by rw[<-yC hgr];exact aNy.2 ⟨x,hx,rfl⟩
  obtain⟨y,hy,e⟩:=aNy.1 this;rw[<-e];exact hgo.lt y hy
 ·have:ms.toArray.toList.map (·.born)=es.map (·.1):=by rw[<-yC hgr]
  rw[this];exact hgo.born.imp λh=>Nat.ne_of_lt h
 ·rintro e w' ⟨v,ks,rfl,h1,h2,h3⟩;exact⟨v,rfl,h2,_,⟨ks,rfl,z8⟩,UZ h3⟩
end Go.Abs
namespace Go.Abs
open Go.Proofs Go.Memo
theorem aF6{cx:Cx}(hx:oA cx)(cap:Nat)(hcap:cap<=9223372036854775807)(loc:QK->Nat)(act:List QK)(st:St)(b:Bool)(G:eL)(H:aH)(hclk:st.clk<4611686018427387904)(hfin:∃Ks:List QK,Ks.length<=1000000/\∀k r,st.res k=some r->k∈Ks)(hW:WR cx loc act st b G H):
  aR Tryz.prog 32 [.optr cx.ix.d 0,aE (cap:Int)] H (λr H'=>∃(f:QK->Option gU) (n:Int),r=aE n/\(∀q r,f q=some r->st.res q=some r)/\WR cx loc act {st with res:=f} b G H'/\dE G G H H'):=by
 have gc0:max (cap:Int) 0=(cap:Int):=z8
 refine aF (N:=33) Tryz.func32 rfl rfl zz λhb'=> ?_;refine aV (bL aA aD aB aC bG) ?_;refine aV (cF qV aA aD aB aC bG) ?_;refine pJ (bL aA aD aB aC bG) ?_
 repeat refine wS ?_
 refine wK ?_;refine eA 1 (bL aA aD aB aC bG) ?_;refine oW (bL aA aD aB aC bG) aJ8 (XT loc act st b G H hclk hfin hW) ?_;rintro _ H8 ⟨⟨ks,rfl,hks⟩,hHe⟩;rw[hHe];obtain⟨m,hm⟩:∃m,m=ks.length-cap:=⟨_,rfl⟩;have gw:IntKind.i64.wrap ((ks.length:Int) - (cap:Int))=(ks.length:Int) - (cap:Int):=cL z8 z8;have gm:max 0 ((ks.length:Int) - (cap:Int))=(m:Int):=z8
 have gml:m<=ks.length:=z8
 obtain⟨vs,hvs⟩:∃vs,vs=ks.take m:=⟨_,rfl⟩;have hk3:(∀e∈ks.map dQ,e.cells.length=3)=True:=eq_true λe he=>by obtain⟨k,_,rfl⟩:=aNy.1 he;rfl
 have gb:(0<=(m:Int)/\(m:Int)<=(ks.length:Int))=True:=by simp;omega
 have htk:List.take m (List.map dQ ks)=List.map dQ vs:=by rw[hvs,List.map_take]
 have hvl:vs.length<=1000000:=by rw[hvs,aNe];omega
 refine bH (aG aA aD aB aC bG gc0 (aG gw gm hk3 gb htk and_false (bL @JS @NP @JX JT false_and))) ?_;refine aV (aG y3 iB yA aA aD aB (aG aC bG gc0 gw gm hk3 (aG gb htk and_false @JS @NP @JX (aS JT false_and)))) ?_;refine gQ [0,6] (aG aA aD aB aC bG gc0 (aG gw gm hk3 gb htk and_false (bL @JS @NP @JX JT false_and))) ?_;refine aV (aG iB yA aA aD aB aC (aG bG gc0 gw gm hk3 gb (aG htk and_false @JS @NP @JX JT false_and))) ?_
 repeat refine wS ?_
 refine bJ ?_;refine fF (σ:=Nat×(QK->Option gU)) (λ(z:Nat×(QK->Option gU))=> [(0, .optr cx.ix.d 0),(6, .slice (vs.map dQ) .none),(21, .slice (vs.map dQ) .none),(22,aE (vs.length:Int)),(23,aE (z.1:Int))]) (λ(z:Nat×(QK->Option gU))=>λH2=>z.1<=vs.length/\(∀q r,z.2 q=some r->st.res q=some r)/\WR cx loc act {st with res:=z.2} b G H2/\dE G G H H2) (λ(z:Nat×(QK->Option gU))=>vs.length-z.1) ((0,st.res)) ⟨(dJ (aG aA aD aB aC bG gc0 (aG gw gm hk3 gb htk and_false (bL @JS @NP @JX JT false_and)))),(dJ (aG aA aD aB aC bG gc0 (aG gw gm hk3 gb htk and_false (bL @JS @NP @JX JT false_and)))),(dJ (aG aA aD aB aC bG gc0 (aG gw gm hk3 gb htk and_false (bL @JS @NP @JX JT false_and)))),(dJ (aG aA aD aB aC bG gc0 (aG gw gm hk3 gb htk and_false (bL @JS @NP @JX JT false_and)))),(dJ (aG aA aD aB aC bG gc0 (aG gw gm hk3 gb htk and_false (bL @JS @NP @JX JT false_and)))),trivial⟩ (⟨aNs _,λ_ _ h=>h,hW, .refl _ _⟩) ?_;intro z H2 hg;obtain⟨i,f⟩:=z;obtain⟨hi,hf,wf,ff⟩:=hg;simp only at hi hf wf;have gj:IntKind.i64.wrap ((i:Int)+1)=((i+1:Nat):Int):=by rw[cL z8 z8];omega
 have gl:decide ((i:Int)<(vs.length:Int))=decide (i<vs.length):=by rw[decide_eq_decide];omega
 refine aV (aG y3 aA aD aB aC bG (aG gc0 gw gm hk3 gb htk (aG and_false @JS @NP @JX JT false_and (aS gj gl)))) ?_;refine gG (aG aA aD aB aC bG gc0 (aG gw gm hk3 gb htk and_false (aG @JS @NP @JX JT false_and gj gl))) (λbt24=> ?_) (λbt24=> ?_)
 ·
  have hlt:i<vs.length:=of_decide_eq_true bt24;have gi:=fS hlt;have ge:=dF dQ hlt;obtain⟨k,hk⟩:∃k,k=vs[i]:=⟨_,rfl⟩;rw[<-hk]at ge;obtain⟨k1,k2,k3⟩:=k
  repeat refine wS ?_
  refine wK ?_
  repeat refine wS ?_
  refine bJ ?_;refine aV (aG iB yA aA aD aB aC (aG bG gc0 gw gm hk3 gb (aG htk and_false @JS @NP @JX JT (bL false_and gj gl gi ge)))) ?_;refine eA 2 (aG iB aA aD aB aC bG (aG gc0 gw gm hk3 gb htk (aG and_false @JS @NP @JX JT false_and (aS gj gl)))) ?_;refine oW (aG aA aD aB aC bG gc0 (aG gw gm hk3 gb htk and_false (aG @JS @NP @JX JT false_and gj gl))) aIm (YD hx (k1,k2,k3) loc act {st with res:=f} b G _ (wf.app hx _)) ?_;rintro _ HF ⟨bb,rfl,wg,fg⟩;refine oN ?_;refine aV (aG y3 aA aD aB aC bG (aG gc0 gw gm hk3 gb htk (aG and_false @JS @NP @JX JT false_and (aS gj gl)))) ?_
  try simp only[bQ,cB]
  exact⟨(i+1,eQ f (k1,k2,k3) none),by show _<_;omega,(by repeat (first|exact trivial|refine⟨rfl, ?_⟩)),z8,λq r hq=>hf q r (by simp only[eQ]at hq;split at hq<;>first|cases hq|exact hq),wg,ff.trans fg.of_app⟩
 ·
  have hge:=of_decide_eq_false bt24
  repeat refine wS ?_
  refine dO ?_;simp only[bQ,cB,reduceIte,Nat.reduceEqDiff,aOf,if_true,if_false];refine aV (aG iB yA aA aD aB aC (aG bG gc0 gw gm hk3 gb (aG htk and_false @JS @NP @JX JT (bR false_and gj gl)))) ?_
  repeat refine wS ?_
  refine wT ⟨.inr rfl,_,rfl, ?_⟩;exact⟨f,_,rfl,hf,wf,ff⟩
end Go.Abs
namespace Go.Memo
open Go.Abs
def cR.dep:Nat->cR->Prop
 |_, .ret _=>True
 |_, .bad=>True
 |0, .get _ _=>False
 |n+1, .get _ c=>∀v,(c v).dep n
section
variable(cp:QK->cR)(Ks:List QK)
def fr(st:St)(q:QK):Bool:=match st.res q with
 |some r=>decide (r.v=st.now)
 |none=>false
def Ph(st:St):Nat:=(Ks.filter λq=> !fr st q).length
def DL(st:St):Prop:=∀q r,st.res q=some r->q∈Ks/\r.deps.length<=20/\∀d∈r.deps,d.1=0\/d∈Ks
structure aLr:Prop where
 prog:∀k∈Ks,(cp k).bel (λd=>d.1=0\/d∈Ks)/\(cp k).dep 20
structure Cst(st st':St)(c:Nat):Prop where
 now:st'.now=st.now
 dl:DL Ks st'
 mono:∀q,fr st q=true->fr st' q=true
 clk:st'.clk+41*Ph Ks st'<=st.clk+41*Ph Ks st+c
variable{cp Ks}
theorem Cst.refl{st:St}(h:DL Ks st)(c:Nat):Cst Ks st st c:=⟨rfl,h,λ_ h=>h,z8⟩
theorem Cst.trans{s1 s2 s3:St}{a b c:Nat}(h:Cst Ks s1 s2 a)(k:Cst Ks s2 s3 b)(hc:a+b<=c):Cst Ks s1 s3 c:=
 ⟨k.now.trans h.now,k.dl,λq hq=>k.mono q (h.mono q hq),by have:=h.clk;have:=k.clk;omega⟩
theorem Cst.up{s1 s2:St}{a c:Nat}(h:Cst Ks s1 s2 a)(hc:a<=c):Cst Ks s1 s2 c:=⟨h.now,h.dl,h.mono,by have:=h.clk;omega⟩
end
end Go.Memo
namespace Go.Abs
structure Tk where
 kind:Int
 text:List UInt8
def Tk.enc(t:Tk):PV:=.agg [.int .i64 t.kind, .str t.text]
theorem Tk.enc_eq(t:Tk):t.enc= .agg [.int .i64 t.kind, .str t.text]:=rfl
theorem Tk.enc_cells(t:Tk):t.enc.cells= [.int .i64 t.kind, .str t.text]:=rfl
theorem Tk.eta(t:Tk):Tk.mk t.kind t.text=t:=rfl
theorem Tk.enc_drop1(t:Tk):t.enc.drop1=t.enc:=by rw[Tk.enc_eq];rfl
theorem Tk.enc_drop0(t:Tk):t.enc.drop0=t.enc:=by rw[Tk.enc_eq];rfl
theorem Tk.enc_len(t:Tk):t.enc.cells.length=2:=by rw[Tk.enc_cells];rfl
theorem Tk.enc_junk(t:Tk):t.enc.isJunk=false:=by rw[Tk.enc_eq];rfl
theorem Tk.bel(n:Nat)(t:Tk):bF n t.enc:=.agg _ (by
 intro c hc;simp only[aN2,aOc,or_false]at hc;rcases hc with rfl|rfl
 ·exact .int _ _
 ·exact .str _)
theorem TkS:(∀t:Tk,t.enc.cells= [.int .i64 t.kind, .str t.text])/\(∀t:Tk,t.enc.isJunk=false)/\(∀t:Tk,t.enc.drop1=t.enc)/\(∀t:Tk,t.enc.drop0=t.enc)/\(∀(t:Tk) (b:Nat),t.enc.fits ⟨true,2,b⟩=true):=
 ⟨Tk.enc_cells,Tk.enc_junk,Tk.enc_drop1,Tk.enc_drop0,λt b=>by rw[Tk.enc_eq];rfl⟩
theorem TkF:(∀(kind:Int) (text:List UInt8),PV.agg [.int .i64 kind, .str text]=(Tk.mk kind text).enc)/\
  (∀t:Tk,Tk.mk t.kind t.text=t)/\
  (∀(kind:Int) (text:List UInt8),(Tk.mk kind text).kind=kind)/\
  (∀(kind:Int) (text:List UInt8),(Tk.mk kind text).text=text):=
 ⟨λkind text=>(Tk.enc_eq (Tk.mk kind text)).symm,Tk.eta,λ_ _=>rfl,λ_ _=>rfl⟩
def Tk.W(t:Tk):Prop:=t.text.length<=2^47
inductive St where
 |mk (kind:Int) (text:List UInt8) (ch:List (St))
def St.kind:St->Int| .mk x0 _ _=>x0
def St.text:St->List UInt8| .mk _ x1 _=>x1
def St.ch:St->List (St)| .mk _ _ x2=>x2
mutual
def St.enc:St->PV
 | .mk x0 x1 x2=>.agg [.int .i64 x0, .str x1, .slice (wG x2) .none]
def wG:List St->List PV
 | []=> []
 |t::ts=>t.enc::wG ts
end
theorem TY(ts:List St):wG ts=ts.map St.enc:=by
 induction ts with
 |nil=>rfl
 |cons t ts ih=>simp[wG,ih]
theorem St.enc_eq(t:St):t.enc= .agg [.int .i64 t.kind, .str t.text, .slice (t.ch.map St.enc) .none]:=by
 cases t;simp[St.enc,TY,St.kind,St.text,St.ch]
theorem St.enc_cells(t:St):t.enc.cells= [.int .i64 t.kind, .str t.text, .slice (t.ch.map St.enc) .none]:=by
 rw[St.enc_eq];rfl
theorem St.eta(t:St):St.mk t.kind t.text t.ch=t:=by cases t;rfl
theorem St.enc_drop1(t:St):t.enc.drop1=t.enc:=by rw[St.enc_eq];rfl
theorem St.enc_drop0(t:St):t.enc.drop0=t.enc:=by rw[St.enc_eq];rfl
theorem St.enc_len(t:St):t.enc.cells.length=3:=by rw[St.enc_cells];rfl
theorem St.enc_junk(t:St):t.enc.isJunk=false:=by rw[St.enc_eq];rfl
mutual
theorem St.bel(n:Nat):∀t:St,bF n t.enc
 | .mk x0 x1 x2=>.agg _ (by
   intro c hc;simp only[aN2,aOc,or_false]at hc;rcases hc with rfl|rfl|rfl
   ·exact .int _ _
   ·exact .str _
   ·exact .slice _ _ (FU n x2) (λid h=>by cases h))
theorem FU(n:Nat):∀ts:List St,∀e∈wG ts,∀c∈e.cells,bF n c
 | []=>λe he=>by simp[wG]at he
 |t::ts=>λe he c hc=>by
  simp only[wG,aN2]at he;rcases he with rfl|he
  ·have h:=St.bel n t;rw[St.enc_eq]at h hc;cases h with
   |agg _ q=>exact q c hc
  ·exact FU n ts e he c hc
end
mutual
def St.size:St->Nat
 | .mk _ _ x2=>1+QU x2
def QU:List St->Nat
 | []=>0
 |t::ts=>t.size+QU ts
end
theorem StS:(∀t:St,t.enc.cells= [.int .i64 t.kind, .str t.text, .slice (t.ch.map St.enc) .none])/\(∀t:St,t.enc.isJunk=false)/\(∀t:St,t.enc.drop1=t.enc)/\(∀t:St,t.enc.drop0=t.enc)/\(∀(t:St) (b:Nat),t.enc.fits ⟨true,3,b⟩=true):=
 ⟨St.enc_cells,St.enc_junk,St.enc_drop1,St.enc_drop0,λt b=>by rw[St.enc_eq];rfl⟩
theorem StF:(∀(kind:Int) (text:List UInt8) (ch:List (St)),PV.agg [.int .i64 kind, .str text, .slice (ch.map St.enc) .none]=(St.mk kind text ch).enc)/\
  (∀(kind:Int) (text:List UInt8),PV.agg [.int .i64 kind, .str text, .slice [] .none]=(St.mk kind text []).enc)/\
  (∀t:St,St.mk t.kind t.text t.ch=t)/\
  (∀(kind:Int) (text:List UInt8) (ch:List (St)),(St.mk kind text ch).kind=kind)/\
  (∀(kind:Int) (text:List UInt8) (ch:List (St)),(St.mk kind text ch).text=text)/\
  (∀(kind:Int) (text:List UInt8) (ch:List (St)),(St.mk kind text ch).ch=ch):=
 ⟨λkind text ch=>(St.enc_eq (St.mk kind text ch)).symm,λkind text=>(St.enc_eq (St.mk kind text [])).symm,St.eta,λ_ _ _=>rfl,λ_ _ _=>rfl,λ_ _ _=>rfl⟩
inductive St.W:St->Prop
 |mk {kind:Int} {text:List UInt8} {ch:List (St)} (h0:text.length<=2^47) (h1:ch.length*48<=2^47) (kch:∀u∈ch,St.W u):St.W (.mk kind text ch)
theorem St.W.w0{t:St}(h:t.W):t.text.length<=2^47:=by cases h;assumption
theorem St.W.w1{t:St}(h:t.W):t.ch.length*48<=2^47:=by cases h;assumption
theorem St.W.ch{t u:St}(h:t.W)(hu:u∈t.ch):u.W:=by cases h with|mk=>exact(by assumption:∀u∈_,St.W u) u hu
theorem qC:type_of%(aI @TkS (aI @TkF (aI @StS (@StF)))):=aI @TkS (aI @TkF (aI @StS (@StF)))
def zD(c:UInt8):Bool:=c==32||c==9||c==10||c==13
def IR(c:UInt8):Bool:=(decide (97<=c)&&decide (c<=122))||(decide (65<=c)&&decide (c<=90))||c==95
def vJ(c:UInt8):Bool:=decide (48<=c)&&decide (c<=57)
def sM(c:UInt8):Bool:= !(c==10)
def sI(c:UInt8):Bool:=IR c||vJ c
def kJ(p:UInt8->Bool):List UInt8->Nat
 | []=>0
 |c::r=>if p c then kJ p r+1 else 0
theorem IV(p:UInt8->Bool):∀s,kJ p s<=s.length
 | []=>aMq _
 |c::r=>by have:=IV p r;simp only[kJ,aM7];split<;>omega
theorem XH{p:UInt8->Bool}{c:UInt8}{r:List UInt8}:0<kJ p (c::r)↔p c=true:=by
 simp only[kJ];split<;>simp_all
theorem UN{p:UInt8->Bool}{s:List UInt8}{i:Nat}(h:i<s.length):kJ p (s.drop i)=if p s[i]then kJ p (s.drop (i+1))+1 else 0:=by
 rw[aOi h,kJ]
def xG:Bool->List UInt8->Option Nat
 |_,[]=>none
 |e,c::r=>if c=10 then none else if c=34/\e=false then some 1 else(xG (decide (c=92)&& !e) r).map (· +1)
def yU:List UInt8->Option Nat
 | []=>none
 | [c]=>if c=34 then some 1 else none
 |c::d::r=>if c=10 then none else if c=34 then some 1 else if c=92/\d≠10 then(yU r).map (· +2)else(yU (d::r)).map (· +1)
theorem IP:∀s,yU s=xG false s
 | []=>rfl
 | [c]=>by
  simp only[yU,xG]
  by_cases h1:c=34
  ·subst h1;simp
  ·by_cases h2:c=10<;>simp[h1,h2]
 |c::d::r=>by
  have i1:=IP r;have i2:=IP (d::r);simp only[yU];rw[xG]
  by_cases h1:c=10
  ·simp[h1]
  ·rw[if_neg h1,if_neg h1]
   by_cases h2:c=34
   ·simp[h2]
   ·have e2:(c=34/\(false:Bool)=false)=False:=by simp[h2]
    simp only[h2,if_false,e2]
    by_cases h3:c=92
    ·by_cases h4:d=10
     ·have e3:(c=92/\d≠10)=False:=by simp[h4]
      simp only[e3,if_false];rw[i2];simp[xG,h3,h4]
     ·have e3:(c=92/\d≠10)=True:=by simp[h3,h4]
      simp only[e3,if_true];rw[i1];simp[xG,h3,h4,Option.map_map,Function.comp_def]
    ·have e3:(c=92/\d≠10)=False:=by simp[h3]
     simp only[e3,if_false];rw[i2];simp[h3]
theorem SD:∀(s:List UInt8) (e:Bool) (k:Nat),xG e s=some k->1<=k/\k<=s.length
 | [],e,k,h=>by cases h
 |c::r,e,k,h=>by
  rw[xG]at h
  split at h
  ·cases h
  ·split at h
   ·cases h;simp
   ·cases hq:xG (decide (c=92)&& !e) r with
    |none=>rw[hq]at h;cases h
    |some m=>
     rw[hq]at h;simp only[aM6,Option.some.injEq]at h;have:=SD r _ m hq;simp only[aM7];omega
def bytesOf(s:String):List UInt8:=s.toUTF8.data.toList
def kwL:List (List UInt8):= [[117,115,101],[112,117,98],[97,115],[102,110],[115,116,114,117,99,116],[101,110,117,109],[116,114,97,105,116],[105,109,112,108],[102,111,114],[99,111,110,115,116],[109,97,99,114,111],[108,101,116],[109,117,116],[119,104,105,108,101],[114,101,116,117,114,110],[109,97,116,99,104],[105,102],[101,108,115,101],[110,101,119],[116,114,117,101],[102,97,108,115,101],[116,121,112,101]]
def aAx:List (List UInt8):= ["::", "=>", "->", "==", "&&", "||"].map bytesOf
def aFp:List UInt8:= [40,41,123,125,91,93,60,62,44,59,58,46,61,43,45,42,47,33,38,124]
def nM(s:List UInt8):Nat×Int:=
 match s with
 | []=>(0,0)
 |c::r=>
  if zD c then(kJ zD s,101)
  else if s.take 2= [47,47]then(kJ sM s,102)
  else if IR c then(if kwL.contains (s.take (kJ sI s))then(kJ sI s,104)else(kJ sI s,103))
  else if vJ c then(kJ vJ s,105)
  else if c=34 then(match xG false r with|some k=>(k+1,106)|none=>(kJ sM s,108))
  else if s.length>1/\aAx.contains (s.take 2)=true then(2,107)
  else if aFp.contains c then(1,107)
  else(1,108)
theorem VR{s:List UInt8}(h:s≠ []):1<=(nM s).1/\(nM s).1<=s.length:=by
 cases s with
 |nil=>exact absurd rfl h
 |cons c r=>
  have key:∀p:UInt8->Bool,p c=true->1<=kJ p (c::r)/\kJ p (c::r)<=(c::r).length:=λp hp=>⟨XH.2 hp,IV _ _⟩;unfold nM;simp only
  split
  ·exact key _ ‹_›
  ·split
   ·rename_i h2;refine key _ ?_;have:c=47:=by simpa using(List.cons.inj h2).1
    subst this;rfl
   ·split
    ·rename_i h3;have:=key sI (by unfold sI;rw[h3];rfl)
     split<;>exact this
    ·split
     ·exact key _ ‹_›
     ·split
      ·rename_i h5
       split
       ·rename_i k hk;have:=SD _ _ _ hk;simp only[aM7];omega
       ·refine key _ ?_;subst h5;rfl
      ·split
       ·rename_i h6;simp only[aM7]at h6⊢;omega
       ·split<;>simp
set_option maxRecDepth 4000
open Go.Proofs
theorem PA(n:Nat)(h:n<256):(UInt8.ofNat n).toNat=n:=by rw[UInt8.toNat_ofNat'];exact Nat.mod_eq_of_lt h
theorem FO(c:UInt8)(n:Nat)(h:n<256):decide ((c.toNat:Int)>=n)=decide (UInt8.ofNat n<=c):=by
 rw[decide_eq_decide,UInt8.le_iff_toNat_le,PA n h];omega
theorem EW(c:UInt8)(n:Nat)(h:n<256):decide ((c.toNat:Int)<=n)=decide (c<=UInt8.ofNat n):=by
 rw[decide_eq_decide,UInt8.le_iff_toNat_le,PA n h];omega
theorem wO(c:UInt8)(n:Nat)(h:n<256):decide ((c.toNat:Int)=n)=(c==UInt8.ofNat n):=by
 have e:(c==UInt8.ofNat n)=decide (c=UInt8.ofNat n):=by rw[aN1];simp
 rw[e,decide_eq_decide,<-UInt8.toNat_inj,PA n h];omega
theorem CQ(c:UInt8):PC Tryz.prog 91 [.int .u8 c.toNat] (.bool (IR c)):=by
 have g97:decide ((c.toNat:Int)>=97)=decide ((97:UInt8)<=c):=FO c 97 z7;have l122:decide ((c.toNat:Int)<=122)=decide (c<=(122:UInt8)):=EW c 122 z7;have g65:decide ((c.toNat:Int)>=65)=decide ((65:UInt8)<=c):=FO c 65 z7;have l90:decide ((c.toNat:Int)<=90)=decide (c<=(90:UInt8)):=EW c 90 z7;have e95:decide ((c.toNat:Int)=95)=(c==95):=wO c 95 z7;have g48:decide ((c.toNat:Int)>=48)=decide ((48:UInt8)<=c):=FO c 48 z7;have l57:decide ((c.toNat:Int)<=57)=decide (c<=(57:UInt8)):=EW c 57 z7;refine kG (N:=21) Tryz.func91 rfl rfl zz (by simp[bF.int,bF.str]) (.bool _) ?_
 repeat refine wS ?_
 refine eE (by simp only[kA,seval,aE,qC]<;>with_reducible rfl) z7 ?_
 repeat refine wS ?_
 refine QD (by simp only[jG,jO,jN,seval,y5,aE,qC]<;>with_reducible rfl) z7 (by repeat (first|exact fT.base _|with_reducible apply fT.keep|apply fT.drop)) ?_
 repeat refine wS ?_
 refine wT ⟨.inr rfl,_,rfl, ?_⟩;simp only[jN,seval,aE,qC,g97,l122,g65,l90,e95,g48,l57]
 try rfl
theorem xS(c:UInt8):PC Tryz.prog 93 [.int .u8 c.toNat] (.bool (vJ c)):=by
 have g97:decide ((c.toNat:Int)>=97)=decide ((97:UInt8)<=c):=FO c 97 z7;have l122:decide ((c.toNat:Int)<=122)=decide (c<=(122:UInt8)):=EW c 122 z7;have g65:decide ((c.toNat:Int)>=65)=decide ((65:UInt8)<=c):=FO c 65 z7;have l90:decide ((c.toNat:Int)<=90)=decide (c<=(90:UInt8)):=EW c 90 z7;have e95:decide ((c.toNat:Int)=95)=(c==95):=wO c 95 z7;have g48:decide ((c.toNat:Int)>=48)=decide ((48:UInt8)<=c):=FO c 48 z7;have l57:decide ((c.toNat:Int)<=57)=decide (c<=(57:UInt8)):=EW c 57 z7;refine kG (N:=9) Tryz.func93 rfl rfl zz (by simp[bF.int,bF.str]) (.bool _) ?_
 repeat refine wS ?_
 refine eE (by simp only[kA,seval,aE,qC]<;>with_reducible rfl) z7 ?_
 repeat refine wS ?_
 refine QD (by simp only[jG,jO,jN,seval,y5,aE,qC]<;>with_reducible rfl) z7 (by repeat (first|exact fT.base _|with_reducible apply fT.keep|apply fT.drop)) ?_
 repeat refine wS ?_
 refine wT ⟨.inr rfl,_,rfl, ?_⟩;simp only[jN,seval,aE,qC,g97,l122,g65,l90,e95,g48,l57]
 try rfl
set_option maxRecDepth 4000
set_option maxRecDepth 4000
theorem BR(s:List UInt8)(hs:s.length<=maxLen)(p:UInt8->Bool)(f:FuncId)(hgo:bO Tryz.prog f=true)(hp:∀c:UInt8,PC Tryz.prog f [.int .u8 c.toNat] (.bool (p c)))(st:Nat)(hst:st<=s.length):PC Tryz.prog 88 [.str s,aE (st:Int), .fn (.func f) [] []] (aE ((st+kJ p (s.drop st):Nat):Int)):=by
 have em:maxLen=9223372036854775807:=z7
 refine kG (N:=21) Tryz.func88 rfl rfl zz (by simp[bF.int,bF.str,cV]) (.int _ _) ?_;refine aV qC ?_
 repeat refine wS ?_
 refine bJ ?_;refine ER (σ:=Nat) (λ(i:Nat)=> [(0, .str s),(1,aE (i:Int)),(2, .fn (.func f) [] [])]) ([]) (λ(i:Nat)=> []) (λ(i:Nat)=>s.length-i) (λ(i:Nat)=>i<=s.length/\st+kJ p (s.drop st)=i+kJ p (s.drop i)) (st) ([]) ⟨(dJ qC),(dJ qC),(dJ qC),trivial⟩ (dJ qC) (⟨z8,rfl⟩) (λ_ _=>by first|exact aNs _| (simp only[aNo];omega)) ?_ ?_
 ·exact λi hg=>⟨by simp only[aN7];exact dN _,by repeat (first|exact jJ.nil|refine jJ.cons (by first|exact Tk.bel _ _|exact cM _|exact cP _|exact bF.int _ _|exact bF.bool _|exact bF.str _|exact bF.nilp|exact bF.nilfn|exact bF.optr _ _ zz|exact cM _|exact cP _|exact cV _ _|assumption) ?_)⟩
 ·intro i hg;have hcs:i<s.length\/i=s.length:=z8
  rcases hcs with hi|hi
  ·
   have g1:=fS hi;obtain⟨c,hc⟩:∃c,s[i]=c:=⟨_,rfl⟩;have g2:s[i]? =some c:=by rw[aNi hi,hc]
   have w1:IntKind.i64.wrap ((i:Int)+1)=((i+1:Nat):Int):=by rw[cL z8 z8];omega
   have f1:((i:Int)<s.length)=True:=by simp;omega
   have f0:((0:Int)<=(i:Int))=True:=zz
   have hd:=UN (p:=p) hi;rw[hc]at hd
   repeat refine wS ?_
   refine wR ?_;refine eN ?_;refine yL 9 (aG y3 y9 qC f1 f0 g1 (bR g2 w1 dU)) ?_;refine XI (aG qC f1 f0 g1 g2 w1 dU) (by assumption) (λhc=>hp c _) ?_;refine DM (aG qC f1 f0 g1 g2 w1 dU) ?_;refine gG (aG qC f1 f0 g1 g2 w1 dU) (λbt17=> ?_) (λbt17=> ?_)
   ·
    have hv1:st+kJ p (s.drop st)=(i+1)+kJ p (s.drop (i+1)):=by rw[hg.2,hd,if_pos bt17];omega
    repeat refine wS ?_
    refine wK ?_
    repeat refine wS ?_
    refine bJ ?_;refine aV (aG y3 qC f1 f0 g1 g2 (aS w1 dU)) ?_
    try simp only[bQ,cB]
    exact⟨i+1,_,by show s.length- (i+1)<s.length-i;omega,⟨rfl,rfl,rfl,trivial⟩,JQ qC,z8,hv1⟩
   ·
    have hv:st+kJ p (s.drop st)=i:=by rw[hg.2,hd,bt17];simp
    repeat refine wS ?_
    refine dO ?_;simp only[bQ,cB,reduceIte,Nat.reduceEqDiff,aOf,if_true,if_false];refine aV (aG qC f1 f0 g1 g2 w1 dU) ?_
    repeat refine wS ?_
    refine wT ⟨.inr rfl,_,rfl, ?_⟩;simp only[jN,seval,aE,qC,hv]
    try rfl
  ·
   have f1:((i:Int)<s.length)=False:=by simp;omega
   have hv:st+kJ p (s.drop st)=i:=by rw[hg.2,hi,List.drop_length];simp[kJ]
   repeat refine wS ?_
   refine wR ?_;refine eN ?_;refine yL 8 (bL y3 y9 qC f1 decide_false) ?_;refine oO (bR qC f1 decide_false) ?_;refine oO (bR qC f1 decide_false) ?_;refine DM (bR qC f1 decide_false) ?_;refine pJ (bR qC f1 decide_false) ?_
   repeat refine wS ?_
   refine dO ?_;simp only[bQ,cB,reduceIte,Nat.reduceEqDiff,aOf,if_true,if_false];refine aV (bR qC f1 decide_false) ?_
   repeat refine wS ?_
   refine wT ⟨.inr rfl,_,rfl, ?_⟩;simp only[jN,seval,aE,qC,hv]
   try rfl
set_option maxRecDepth 4000
theorem oX(n:Nat)(l:List (List UInt8)):bF n (.slice (l.map PV.str) .none):=.slice _ _ (λe he c hc=>by
 obtain⟨s,_,rfl⟩:=aNy.1 he;have hc:c∈ [PV.str s]:=hc;rw[aN8.1 hc];exact .str _) (λi e=>by cases e)
theorem IZ(us:List (List UInt8))(v:List UInt8):(us.any λx=>decide (v=x))=us.contains v:=by
 induction us with
 |nil=>rfl
 |cons a l ih=>rw[List.any_cons,List.contains_cons,ih,show decide (v=a)=(v==a)from by rw[aN1];simp]
theorem aEy(c:UInt8):PC Tryz.prog 90 [.int .u8 c.toNat] (.bool (sM c)):=by
 have e10:decide ((c.toNat:Int)=10)=(c==10):=wO c 10 z7;refine kG (N:=5) Tryz.func90 rfl rfl zz (by simp[bF.int,bF.str]) (.bool _) ?_;refine aV qC ?_;refine aV (aS y5 qC) ?_
 repeat refine wS ?_
 refine wT ⟨.inr rfl,_,rfl, ?_⟩;simp only[jN,seval,aE,qC,e10]
 try rfl
theorem aIe(c:UInt8):PC Tryz.prog 114 [.int .u8 c.toNat] (.bool (sM c)):=by
 have e10:decide ((c.toNat:Int)=10)=(c==10):=wO c 10 z7;refine kG (N:=5) Tryz.func114 rfl rfl zz (by simp[bF.int,bF.str]) (.bool _) ?_;refine aV qC ?_;refine aV (aS y5 qC) ?_
 repeat refine wS ?_
 refine wT ⟨.inr rfl,_,rfl, ?_⟩;simp only[jN,seval,aE,qC,e10]
 try rfl
theorem aG2(c:UInt8):PC Tryz.prog 92 [.int .u8 c.toNat] (.bool (sI c)):=by
 refine kG (N:=9) Tryz.func92 rfl rfl zz (by simp[bF.int,bF.str]) (.bool _) ?_;refine aV qC ?_
 repeat refine wS ?_
 refine wR ?_;refine eN ?_;refine yL 1 qC ?_;refine XI qC aDq (λhc=>CQ c _) ?_;refine yL 2 qC ?_;refine XI qC WG (λhc=>xS c _) ?_;refine DM qC ?_
 repeat refine wS ?_
 refine wT ⟨.inr rfl,_,rfl, ?_⟩;simp only[jN,seval,aE,qC]
 try rfl
theorem aHe(us:List (List UInt8))(v:List UInt8)(hx:us.length<=maxLen):PC Tryz.prog 112 [.slice (us.map PV.str) .none, .str v] (aE (cN (λx=>decide (v=x)) us)):=by
 refine kG (N:=19) Tryz.func112 rfl rfl zz (by simp[bF.int,bF.str,oX]) (.int _ _) ?_;refine aV qC ?_;refine aV (bR y9 aIp qC) ?_
 repeat refine wS ?_
 refine iQ (σ:=Unit) (us.length) (λ(s:Unit)=> [(0, .slice (us.map PV.str) .none),(1, .str v)]) [0,1] ([]) (λ(s:Unit)=> []) (λ(i:Nat) (s:Unit)=>(us.take i).any (λx=>decide (v=x))=false) (()) ([]) rfl rfl rfl rfl rfl rfl rfl rfl rfl z7 z7 z7 (λ_=>rfl) (hx) ⟨(dJ qC),(dJ qC),(dJ qC),(dJ qC),trivial⟩ (dJ qC) zz (λ_ _ _=>by first|exact aNs _| (simp only[aNo];omega)) ?_ ?_ ?_
 ·exact λi s hg=>⟨by first|exact dN _| (simp only[aN9];assumption)| (refine kI hb' zz ?_;repeat (first|exact dN _|exact trivial|exact eK _| (refine iJ.cons ?_ ?_)| (refine dT (by first|exact oX _ _|exact Tk.bel _ _|exact cM _|exact cP _|exact bF.int _ _|exact bF.bool _|exact bF.str _|exact bF.nilp|exact bF.nilfn|exact bF.optr _ _ zz|exact cM _|exact cP _|exact cV _ _|assumption) ?_))),by repeat (first|exact jJ.nil|refine jJ.cons (by first|exact oX _ _|exact Tk.bel _ _|exact cM _|exact cP _|exact bF.int _ _|exact bF.bool _|exact bF.str _|exact bF.nilp|exact bF.nilfn|exact bF.optr _ _ zz|exact cM _|exact cP _|exact cV _ _|assumption) ?_)⟩
 ·intro i s hi hg;have g1:=fS hi;have g2:=dF PV.str hi;refine aV (bR qC g1 g2) ?_;refine aV (bL y9 aIp qC g1 g2) ?_;refine gG (bR qC g1 g2) (λb0=> ?_) (λb0=> ?_)
  ·
   refine aV (bR qC g1 g2) ?_
   repeat refine wS ?_
   refine wT ⟨.inr rfl,_,rfl, ?_⟩;rw[oQ hi b0 hg];rfl
  ·
   repeat refine wS ?_
   refine wK ?_;exact⟨⟨rfl,rfl,trivial⟩,(),[],⟨rfl,rfl,trivial⟩,rfl,iG hi hg b0⟩
 ·intro s hg;rw[aOj]at hg;refine aV qC ?_
  repeat refine wS ?_
  refine wT ⟨.inr rfl,_,rfl, ?_⟩;rw[nR hg];rfl
theorem QP(us:List (List UInt8))(v:List UInt8)(hx:us.length<=maxLen):PC Tryz.prog 94 [.slice (us.map PV.str) .none, .str v] (.bool (us.contains v)):=by
 refine kG (N:=9) Tryz.func94 rfl rfl zz (by simp[bF.int,bF.str,oX]) (.bool _) ?_;refine aV qC ?_;refine eA 2 qC ?_;refine qT qC aE6 (aHe us v hx _) ?_;refine bH (aS y3 qC) ?_
 repeat refine wS ?_
 refine wT ⟨.inr rfl,_,rfl, ?_⟩;rw[<-IZ,<-qD];rfl
end Go.Abs
