import Derived.Test.YtgcjpahhljmlmaaGreatDoorLParsesY1
import Derived.RangeFuncRecord
import Derived.Scope
import Derived.Lib.AppendStr
import Derived.Lib.UnsafeStr
import Derived.Lib.Builder
import Derived.Laws.Externs
import Derived.Recover
import Derived.Defers
import Derived.KernelRfl
import Derived.Lib.IndexMore
import Derived.Lib.Bytealg
import Derived.Lib.IndexBytes
import Derived.Lib.SplitLaws
import Derived.Lib.Join
import Derived.Lib.TrimByte
import Derived.Lib.Repeat
import Derived.Lib.ItoaNum
set_option linter.defProp false
section
namespace Go.Eng
open Go Go.RowKit
def b6O(P:Program)(l:Nat)(v:Value)(w:World)(R:Bool->World->Prop):Prop:=
 ∃fn tmps assign body,(Instr.yield l #[v]).run P w=.ok (.round l fn tmps assign body) w /\
  RoundIn (fen none) 0 P l fn tmps assign body w λe w'=>∃b,e=.returned (.bool b)/\R b w'
theorem b6O.mono{P:Program}{l:Nat}{v:Value}{w:World}{R R':Bool->World->Prop}(h:b6O P l v w R)(hr:∀b w',R b w'->R' b w'):b6O P l v w R':=by obtain⟨fn,tmps,assign,body,h1,h2⟩:=h;exact⟨fn,tmps,assign,body,h1,h2.mono λe w' ⟨b,e1,e2⟩=>⟨b,e1,hr b w' e2⟩⟩
section
variable {P:Program}{ops:Array Oper}{Q:Exit->Pw}{n:Cx}{F:Fm}{h h':Lr}{m:View}{rest:Lo}
variable {op:Op}{ty:TypeId}{pos:String}{after:Array Edge}{d:Nat}{v:Value}
theorem St.at{b:Nat}{o:Obj}{w:World}(s:St m h w)(hm:Res.pt b o∈h):w.heap[b]?=some o:=s.ok _ hm
theorem Y3{eff:List Nat}{t':Tl}{hs hp:Lr}{i:Nat}{s:Tr}{x y:Operand}{t e:TypeId}{sz by_ l cap k c l':Nat}{a b:Oa}{xs ys zs:Lv}{hq:Value->Lr}
 (ho:ops[i]?=some ⟨some d,.call ⟨.builtin .append,#[x,y],#[t,t]⟩,ty,pos,after,none⟩) (he:eff.contains i=true) (E:EL P t e sz by_) (ex:Ev n F x (.slice a l cap)) (ey:Ev n F y (.slice b k c))
 (rd:Rd m (hp++hs) b k c sz ys) (h1:∀u∈ys,u.oneCell'=true) (hl:l+k=l') (hz:xs++ys=zs) (h63:l'<=9223372036854775807) (hbytes:l'*by_<=140737488355328)
 (u:∀v',Upd hp (.row (.slice a l cap) e sz l xs) (.row v' e sz l' zs) (hq v')) (hd:d<n.num) (kk:∀a' cap',SR P ops Q n eff t' hs s ((d,.slice a' l' cap')::F) (hq (.slice a' l' cap')) m) :
 SR P ops Q n eff t' hs (.op i s) F hp m:=by
 subst hl hz;exact SR.append ho he E ex ey rd h1 h63 hbytes u hd kk
structure WY(P:Program)(ops:Array Oper)(Q:Exit->Pw)(n:Cx)(l:Lo)(F:Fm)(h:Lr)(m:View):Prop where
 e:∀a w,Fr n F a->St m h w->wpListIn (fen n.ro) 0 P ops (a0K Q) l a w
theorem b03{id:Nat}{l:Lo}{G:List (Option Nat)}(hG:b0P l=some G)(k:∀ops:Array Oper,(∀j t,G[j]?=some (some t)->a3k ops j=some t)->WY P ops Q n l F h m):WC P (.region id l.toArray false) Q n F h m:=.mk λa w ha hs=>
 wpIn_region_lit ((k _ λj t hj=>by
  have hG:=a8P hG;subst hG;unfold a3k;simp only[jh]at hj;simp only[List.getElem?_toArray];cases hl:l[j]? with
  |none=>simp[hl]at hj
  |some o=>simpa [hl]using hj).e a w ha hs)
theorem b5g{o:Oper}{a:Act}{w w':World}{K:Pw}{v:Value}(hro:n.ro=none)(hr:(execOp a.eval o).run P w=.ok (.value v) w')(h:K (a.put o.dst v) w'):o.wpIn (fen n.ro) 0 P a w K Q:=by refine⟨λ_ _=>trivial,?_⟩;show o.uponIn (fen n.ro) 0 P a K Q ((o.semAt n.ro a.eval).run P w);rw[hro,Oper.semAt_none,hr];exact h
theorem WY.po(hro:n.ro=none)(hp:PO P ⟨some d,op,ty,pos,after,none⟩ n F h m v)(hn:d<n.num)(k:WY P ops Q n rest ((d,v)::F) h m) :
 WY P ops Q n (⟨some d,op,ty,pos,after,none⟩::rest) F h m:=.mk λa w ha hs=>by
 unfold wpListIn;rw[if_pos (show Region.wanted _ _=true from rfl)];exact b5g hro (hp a w ha hs) (k.e _ _ (ha.put hn v) hs)
def noPan(Q:Exit->Pw):Exit->Pw
 | .panic _,_,_=>False
 |e,a,w=>Q e a w
end
end Go.Eng
namespace Go.Eng
open Go Go.RowKit
section
variable {P:Program}{ops:Array Oper}{Q:Exit->Pw}{n:Cx}{F:Fm}{h h':Lr}{m:View}{rest:Lo}
variable {op:Op}{ty:TypeId}{pos:String}{after:Array Edge}{d:Nat}{v:Value}{dst:Option Nat}{g:Option (Nat×Bool)}
end
end Go.Eng
namespace Go.Eng
open Go Go.RowKit
section
variable {P:Program}{ops:Array Oper}{Q:Exit->Pw}{n:Cx}{F:Fm}{m:View}
variable {ty:TypeId}{pos:String}{after:Array Edge}{d:Nat}{eff:List Nat}{hs hp:Lr}{i:Nat}{s:Tr}{t':Tl}
end
end Go.Eng
namespace Go.Eng
open Go Go.RowKit
def RX(m:View)(R:Value->View->Lr->Prop)(X:Value->Lr->Prop)(e:Ending)(w:World):Prop:=
 RQ m R e w\/∃v h',e=.panicked [{ v:=v,recovered:=false }]/\St m h' w/\X v h'
structure CX(P:Program)(f:FuncId)(args:Lv)(h:Lr)(m:View)(R:Value->View->Lr->Prop)(X:Value->Lr->Prop):Prop where
 enter:∀as w,(callFunc f as).run P w=.ok (.enter f as) w
 calls:∀w,St m h w->Calls P f args.toArray w (RX m R X)
section
variable {P:Program}{ops:Array Oper}{Q:Exit->Pw}{n:Cx}{F:Fm}{h h':Lr}{m:View}{rest:Lo}
variable {op:Op}{ty:TypeId}{pos:String}{after:Array Edge}{d:Nat}{v:Value}{dst:Option Nat}{g:Option (Nat×Bool)}
theorem CX.ofCT{f:FuncId}{args:Lv}{R:Value->View->Lr->Prop}{X:Value->Lr->Prop}(c:CT P f args h m R):CX P f args h m R X:=⟨c.enter,λw hs=>Calls.mono (c.calls w hs) λ_ _ q=>.inl q⟩
theorem CX.mono{f:FuncId}{args:Lv}{R R':Value->View->Lr->Prop}{X X':Value->Lr->Prop}(c:CX P f args h m R X)(hr:∀v m' h',R v m' h'->R' v m' h')(hx:∀v h',X v h'->X' v h'):CX P f args h m R' X':=
 ⟨c.enter,λw hs=>Calls.mono (c.calls w hs) λ_ _ q=>q.imp (λ⟨v,m',h',e,a,b,r⟩=>⟨v,m',h',e,a,b,hr _ _ _ r⟩) λ⟨v,h',e,s,x⟩=>⟨v,h',e,s,hx _ _ x⟩⟩
theorem CX.body{f:FuncId}{args:Lv}{R:Value->View->Lr->Prop}{X:Value->Lr->Prop}{fn:Func}{c:Code}{F0:Fm}{N:Nat}(he:∀as w,(callFunc f as).run P w=.ok (.enter f as) w)
 (hf:P.funcs[f]?=some fn) (hb:fn.body=some c) (hN:fn.ntmps=N) (hl:args.length<=N) (hF:a3l 0 args=some F0) (k:WC P c (bodyPost P fn (RX m R X)) ⟨N,none,[]⟩ F0 h m):CX P f args h m R X:=by
 have hF:=a5q hF;subst hF hN;exact⟨he,λw hs=>calls_of_wp hf hb (wpIn_wide.1 (wpIn_mono (k.e _ w (Fr.enter args fn.ntmps hl) hs) λ_ _ _ q=>a5d q))⟩
theorem toX{fn:Func}{ex:Exit}{m0:View}{R:Value->View->Lr->Prop}{X:Value->Lr->Prop}(hex:ex=.ret\/ex=.normal)(k:∀a w,Fr n F a->St m h w->bodyPost P fn (RQ m0 R) ex a w) :
 ∀a w,Fr n F a->St m h w->bodyPost P fn (RX m0 R X) ex a w:=λa w ha hs=>by
 rcases hex with rfl|rfl
 ·obtain⟨h1,v,h2,h3⟩:=k a w ha hs
  exact⟨h1,v,h2,.inl h3⟩
 ·obtain⟨h1,v,h2,h3⟩:=k a w ha hs
  exact⟨h1,v,h2,.inl h3⟩
theorem a2G{fn:Func}{m0:View}{R:Value->View->Lr->Prop}{X:Value->Lr->Prop}(h':Lr)(hle:m0.le m)(hd:h'.Sublist h)(hX:X v h')(hds:n.ds=[]:=by rfl) :
 ∀a w,Fr n F a->St m h w->bodyPost P fn (RX m0 R X) (.panic [{ v:=v,recovered:=false }]) a w:=λ_ _ ha hs=>
 ⟨ha.d.trans hds,.inr ⟨v,h',rfl,(hs.sub hd).back hle,hX⟩⟩
theorem WL.panic{x:Operand}{t:TypeId}{u:Value}(ex:Ev n F x (.iface t u))(k:∀a w,Fr n F a->St m h w->Q (.panic [{ v:=.iface t u,recovered:=false }]) a w) :
 WL P ops Q n (⟨dst,.panic x,ty,pos,after,none⟩::rest) F h m:=.mk λa w ha hs=>by
 refine G7 rfl ?_;unfold Oper.wp;have hr:(execOp a.eval ⟨dst,.panic x,ty,pos,after,none⟩).run P w=.halt (.panic (.iface t u)) w:=by simp[execOp,ex a ha];rfl
 rw[hr];exact k a w ha hs
theorem A1{f:Operand}{args:List Operand}{tys:Array TypeId}{vs first cap:Lv}{q:FuncId}{R:Value->Lr->Prop}{X:Value->Lr->Prop}(ef:Ev n F f (.func (.func q) first.toArray cap.toArray))(ea:Evs n F args vs)
 (c:CX P q (first++vs++cap) h m (λv _ h'=>R v h') X) (hd:d<n.num) (kx:∀v h',X v h'->∀a w,Fr n F a->St m h' w->Q (.panic [{ v:=v,recovered:=false }]) a w) (k:∀v h',R v h'->WL P ops Q n rest ((d,v)::F) h' m) :
 WL P ops Q n (⟨some d,.call ⟨.value f,args.toArray,tys⟩,ty,pos,after,none⟩::rest) F h m:=.mk λa w ha hs=>by
 refine G7 rfl ?_;unfold Oper.wp;rw[Y8 ha ef ea c.enter];refine Calls.mono (c.calls w hs) ?_;rintro e w' (⟨v,m',h',rfl,hle,hst,hR⟩|⟨v,h',rfl,hst,hX⟩)
 ·exact k v h' hR _ _ (ha.put hd v) (hst.back hle)
 ·exact kx v h' hX a w' ha hst
theorem R7{eff:List Nat}{t:Tl}{hs hp:Lr}{i:Nat}{s:Tr}{f:Operand}{args:List Operand}{tys:Array TypeId}{vs first cap:Lv}{q:FuncId}{R:Value->Lr->Prop}{X:Lr->Value->Lr->Prop}
 (ho:ops[i]?=some ⟨some d,.call ⟨.value f,args.toArray,tys⟩,ty,pos,after,none⟩) (he:eff.contains i=true) (ef:Ev n F f (.func (.func q) first.toArray cap.toArray)) (ea:Evs n F args vs)
 (c:∀fr,CX P q (first++vs++cap) (hp++(fr++hs)) m (λv _ h'=>∃hp',h'=hp'++(fr++hs)/\R v hp') (X fr)) (hd:d<n.num)
 (kx:∀fr v h',X fr v h'->∀a w,Fr n [] a->St m h' w->Q (.panic [{ v:=v,recovered:=false }]) a w) (k:∀v hp',R v hp'->SR P ops Q n eff t hs s ((d,v)::F) hp' m) :
 SR P ops Q n eff t hs (.op i s) F hp m:=⟨_,ho,λx hx=>by cases hx;exact hd,by
 rw[he];refine⟨λfr a w ha st=>⟨λ_=>?_,λh=>by simp[Region.wanted]at h⟩⟩;rw[Y8 ha ef ea (c fr).enter];have hpm:(fr++(hp++hs)).Perm (hp++(fr++hs)):=by rw[<-qj,<-qj];exact je.append_right hs
 refine Calls.mono ((c fr).calls w (st.perm hpm)) ?_;rintro e w' (⟨v,m',h',rfl,hle,hst,hp',rfl,hR⟩|⟨v,h',rfl,hst,hX⟩)
 ·refine .inl ⟨v,rfl,m,hp',View.le.refl m,(hst.back hle).perm ?_,nofun,(k v hp' hR).e⟩
  rw[<-qj,<-qj];exact je.append_right hs
 ·exact .inr ⟨_,rfl,λa' ha'=>kx fr v h' hX a' w' ha' hst⟩⟩
theorem a0a{x:Operand}{t:TypeId}{fs:Array Field}(ht:P.underlying t=some (.struct fs))(ex:Ev n F x v):PO P ⟨dst,.makeInterface t x,ty,pos,after,g⟩ n F h m (.iface t v):=.mk λa w ha _=>by
 simp[execOp,ex a ha,Instr.makeInterface,run_underlying ht]
theorem a4H{x:Operand}{t s:TypeId}{fs:Array Field}(ht:P.underlying s=some (.struct fs))(ex:Ev n F x (.iface s v)):PO P ⟨dst,.typeAssert x t s true,ty,pos,after,g⟩ n F h m (.tuple #[v,.bool true]):=.mk λa w ha _=>by
 have h1:(Instr.typeAssert (.iface s v) t s true).run P w=.ok (.tuple #[v,.bool true]) w:=by simp[Instr.typeAssert,run_underlying ht]
 simp[execOp,ex a ha,h1]
theorem a9t{x y:Operand}{t t':TypeId}{ms:Array (String×TypeId)}(ht:P.underlying t=some (.interface ms))(ex:Ev n F x .nilIface)(ey:y=.const .nilIface) :
 PO P ⟨dst,.binOp .neq t x y t',ty,pos,after,g⟩ n F h m (.bool false):=.mk λb w ha _=>by
 subst ey;have h1:∀d,(Op.equalIn (d+1) t .nilIface .nilIface).run P w=.ok true w:=λd=>by
  simp[Op.equalIn,run_underlying ht]
 have h2:(Op.equal t .nilIface .nilIface).run P w=.ok true w:=h1 9999;have h3:(eqGuard .neq t x (.const .nilIface) .nilIface .nilIface).run P w=.ok () w:=by simp[eqGuard]
 have h4:b.eval (.const .nilIface)=.nilIface:=rfl;simp[execOp,ex b ha,h4,binOp,h2,h3]
theorem a9m{x y:Operand}{t t' s:TypeId}{ms:Array (String×TypeId)}{u:Value}(ht:P.underlying t=some (.interface ms))(ex:Ev n F x (.iface s u))(ey:y=.const .nilIface) :
 PO P ⟨dst,.binOp .neq t x y t',ty,pos,after,g⟩ n F h m (.bool true):=.mk λb w ha _=>by
 subst ey;have h1:∀d,(Op.equalIn (d+1) t (.iface s u) .nilIface).run P w=.ok false w:=λd=>by
  simp[Op.equalIn,run_underlying ht]
 have h2:(Op.equal t (.iface s u) .nilIface).run P w=.ok false w:=h1 9999;have h3:(eqGuard .neq t x (.const .nilIface) (.iface s u) .nilIface).run P w=.ok () w:=by simp[eqGuard]
 have h4:b.eval (.const .nilIface)=.nilIface:=rfl;simp[execOp,ex b ha,h4,binOp,h2,h3]
end
end Go.Eng
namespace Go.Eng
open Go Go.RowKit
def b0N(q:FuncId)(cap:Lv):Deferred:={ target:=.fn (.func q) cap.toArray,args:=#[] }
section
variable {P:Program}{ops:Array Oper}{Q:Exit->Pw}{n:Cx}{F:Fm}{h h':Lr}{m:View}{rest:Lo}
variable {op:Op}{ty:TypeId}{pos:String}{after:Array Edge}{d:Nat}{v:Value}{dst:Option Nat}{g:Option (Nat×Bool)}
theorem WY.defer{f:Operand}{tys:Array TypeId}{q:FuncId}{cap:Lv}(hro:n.ro=none)(ef:Ev n F f (.func (.func q) #[] cap.toArray))
 (k:∀a w,Fr { n with ds:=b0N q cap::n.ds } F a->St m h w->Q .normal a w) :
 WY P ops Q n [⟨none,.defer ⟨.value f,#[],tys⟩,ty,pos,after,none⟩] F h m:=.mk λa w ha hs=>by
 unfold wpListIn;rw[if_pos (show Region.wanted _ _=true from rfl)];refine⟨λ_ _=>trivial,?_⟩;show Oper.uponIn (fen n.ro) 0 P _ a _ (a0K Q) ((Oper.semAt n.ro a.eval _).run P w);rw[hro,Oper.semAt_none];have hr:(execOp a.eval ⟨none,.defer ⟨.value f,#[],tys⟩,ty,pos,after,none⟩).run P w=.ok (.defer (b0N q cap)) w:=by simp[execOp,resolve,ef a ha,Deferred.ofValue,b0N]
 rw[hr];exact k _ w ⟨by show b0N q cap::a.defers=_;rw[ha.d],by simpa [Act.put]using ha.sz,λt v ht=>by simpa [Act.put]using ha.get t v ht⟩ hs
theorem CT.bodyD{f:FuncId}{args:Lv}{R:Value->View->Lr->Prop}{fn:Func}{c:Code}{F0:Fm}{N:Nat}(he:∀as w,(callFunc f as).run P w=.ok (.enter f as) w)
 (hf:P.funcs[f]?=some fn) (hb:fn.body=some c) (hN:fn.ntmps=N) (hl:args.length<=N) (hF:a3l 0 args=some F0) (k:WC P c (bodyPostD P fn (RQ m R)) ⟨N,none,[]⟩ F0 h m):CT P f args h m R:=by
 have hF:=a5q hF;subst hF hN;exact⟨he,λw hs=>calls_of_wp_defers hf hb (wpIn_wide.1 (wpIn_mono (k.e _ w (Fr.enter args fn.ntmps hl) hs) λ_ _ _ q=>a5d q))⟩
def b0R(P:Program)(q:FuncId)(cap:Lv)(u:FrameMode)(m:View)(h h2:Lr):Prop:=
 ∀w,St m h w->CallsD P q cap.toArray u w λe u' w'=>(∃v,e=.returned v)/\settle u'=.returning/\St m h2 w'
theorem b3q{fn:Func}{tmps:Array Value}{R:Ending->World->Prop}{q:FuncId}{cap:Lv}{u:FrameMode}{h2:Lr}{w:World}(he:∀as w,(callFunc q as).run P w=.ok (.enter q as) w)(hu:u≠.run)(hd:b0R P q cap u m h h2)(hs:St m h w)
 (hr:∀w',St m h2 w'->∃v,(results fn tmps).run P w'=.ok v w'/\R (.returned v) w'):Leaves P fn tmps R [b0N q cap] u w:=by
 refine leaves_cons hu (f:=q) (args:=cap.toArray) (by simp[invoke,he]) ((hd w hs).mono ?_);rintro e u' w' ⟨⟨v,rfl⟩,hset,hs'⟩;show Leaves P fn tmps R [] (settle u') w';rw[hset];exact hr w' hs'
theorem c6P{fn:Func}{ex:Exit}{m0:View}{R:Value->View->Lr->Prop}{r r' r'':ResultVar}{v v' v'':Value}{q:FuncId}{cap:Lv}(hex:ex=.ret\/ex=.normal)(hds:n.ds=[b0N q cap])(he:∀as w,(callFunc q as).run P w=.ok (.enter q as) w)
 (hd:b0R P q cap .returning m h h) (hfn:fn.results=#[r,r',r'']) (x1:RV P n F h m r v) (x2:RV P n F h m r' v') (x3:RV P n F h m r'' v'') (hle:m0.le m) (hsub:h'.Sublist h) (hR:R (.tuple #[v,v',v'']) m h') :
 ∀a w,Fr n F a->St m h w->bodyPostD P fn (RQ m0 R) ex a w:=λa w ha hs=>by
 have key:Leaves P fn a.tmps (RQ m0 R) a.defers .returning w:=by
  rw[ha.d,hds];refine b3q he (by simp) hd hs λw' hs'=>⟨.tuple #[v,v',v''],?_,_,m,h',rfl,hle,hs'.sub hsub,hR⟩
  have h1:=x1.e a w' ha hs';have h2:=x2.e a w' ha hs';have h3:=x3.e a w' ha hs';simp[a0L,hfn,h1,h2,h3]
 rcases hex with rfl|rfl<;>exact key
theorem c8T{fn:Func}{m0:View}{R:Value->View->Lr->Prop}{r r' r'':ResultVar}{v v' v'' u:Value}{q:FuncId}{cap:Lv}{h2:Lr}(hds:n.ds=[b0N q cap])(he:∀as w,(callFunc q as).run P w=.ok (.enter q as) w)
 (hd:b0R P q cap (.panicking [{ v:=u,recovered:=false }]) m h h2) (hfn:fn.results=#[r,r',r'']) (x1:RV P n F h2 m r v) (x2:RV P n F h2 m r' v') (x3:RV P n F h2 m r'' v'') (hle:m0.le m) (hsub:h'.Sublist h2) (hR:R (.tuple #[v,v',v'']) m h') :
 ∀a w,Fr n F a->St m h w->bodyPostD P fn (RQ m0 R) (.panic [{ v:=u,recovered:=false }]) a w:=λa w ha hs=>by
 show Leaves P fn a.tmps (RQ m0 R) a.defers (.panicking [{ v:=u,recovered:=false }]) w;rw[ha.d,hds];refine b3q he (by simp) hd hs λw' hs'=>⟨.tuple #[v,v',v''],?_,_,m,h',rfl,hle,hs'.sub hsub,hR⟩
 have h1:=x1.e a w' ha hs';have h2:=x2.e a w' ha hs';have h3:=x3.e a w' ha hs';simp[a0L,hfn,h1,h2,h3]
def c7P(P:Program)(fn:Func)(m:View)(h2:Lr):Exit->Pw:=λe a w=>(e=.normal\/e=.ret)/\a.defers=[]/\(∃v,(results fn a.tmps).run P w=.ok v w)/\St m h2 w
theorem a8F{fn:Func}{ex:Exit}{h2:Lr}(hex:ex=.ret\/ex=.normal)(hfn:fn.results=#[])(hd:h2.Sublist h)(hds:n.ds=[]:=by rfl):∀a w,Fr n F a->St m h w->c7P P fn m h2 ex a w:=λa w ha hs=>⟨hex.symm,ha.d.trans hds,⟨.tuple #[],by simp[results,hfn]⟩,hs.sub hd⟩
theorem c1P{fn:Func}{c0:Frame}{cs:List Frame}{u2:FrameMode}{h2:Lr}(hset:settle u2=.returning){e:Exit}{a:Act}{w:World}(q:c7P P fn m h2 e a w) :
 bodyPostS P fn c0 cs (λe u' w'=>(∃v,e=.returned v)/\settle u'=.returning/\St m h2 w') e a ({ c0 with mode:=u2 }::cs) w:=by
 obtain⟨he,h1,⟨v,h3⟩,h4⟩:=q;rcases he with rfl|rfl<;>exact⟨h1,u2,rfl,v,h3,⟨v,rfl⟩,hset,h4⟩
theorem c1E{Q:Exit->Act->List Frame->World->Prop}{i:Nat}{l:List Nat}{o:Oper}{a:Act}{cs:List Frame}{w:World}(ho:ops[i]?=some o)(hw:Region.wanted o (yielded ops a.tmps)=true)(hr:(execOp a.eval o).run P w=.ok .recover w)
 (h1:∀v cs',recoverD cs=some (v,cs')->wpOpsS P ops Q l (a.put o.dst v) cs' w) (h2:recoverD cs=none->wpOpsS P ops Q l (a.put o.dst .nilIface) cs w):wpOpsS P ops Q (i::l) a cs w:=by
 unfold wpOpsS;simp only[ho];rw[if_pos hw,hr];simp only;split
 ·rename_i v cs' e
  exact h1 v cs' e
 ·rename_i e
  exact h2 e
theorem b3K{Q:Exit->Act->List Frame->World->Prop}{i:Nat}{l:List Nat}{o:Oper}{a:Act}{cs:List Frame}{w:World}{v:Value}(ho:ops[i]?=some o)(hw:Region.wanted o (yielded ops a.tmps)=true)(hr:(execOp a.eval o).run P w=.ok (.value v) w)
 (h1:wpOpsS P ops Q l (a.put o.dst v) cs w):wpOpsS P ops Q (i::l) a cs w:=by
 unfold wpOpsS;simp only[ho];rw[if_pos hw,hr];exact h1
theorem a8H{q:FuncId}{cap:Lv}{fn:Func}{l:Lo}{id dr d2:Nat}{t1 t2:TypeId}{p1 p2:String}{a1 a2:Array Edge}{y:Code}{u u2:FrameMode}{r:Value}{N:Nat}{F0:Fm}{h2:Lr}(hf:P.funcs[q]?=some fn)(hb:fn.body=some (.seq (.region id l.toArray false) y))
 (hl0:l=[⟨some dr,.call ⟨.builtin .recover,#[],#[]⟩,t1,p1,a1,none⟩,⟨some d2,.assign (.tmp dr),t2,p2,a2,none⟩]) (hN:fn.ntmps=N) (hl:cap.length<=N) (hF:a3l 0 cap=some F0) (hdr:dr<N) (hd2:d2<N)
 (hrec:∀(c0:Frame) cs,c0.mode=u->(recoverD (c0::cs)=some (r,{ c0 with mode:=u2 }::cs))\/(recoverD (c0::cs)=none/\r=.nilIface/\u2=u)) (hset:settle u2=.returning)
 (k:WC P y (c7P P fn m h2) ⟨N,none,[]⟩ ((d2,r)::(dr,r)::F0) h m):b0R P q cap u m h h2:=λw hs=>by
 have hF:=a5q hF;subst hF hN hl0;refine callsD_of_wpS hf hb λc0 cs hu=>wpS_seq (wpS_region ?_)
 have fr0:=Fr.enter cap fn.ntmps hl;have fr1:=fr0.put hdr r;have fr2:=fr1.put hd2 r;have fin:∀cs',cs'={ c0 with mode:=u2 }::cs->y.wpS P (bodyPostS P fn c0 cs (λe u' w'=>(∃v,e=.returned v)/\settle u'=.returning/\St m h2 w')) _ cs' w:=λcs' e=>by
  subst e;exact wpS_of_wp (wp_mono (wpIn_wide.1 (k.e _ w fr2 hs)) λe a' w' q=>c1P hset (a5d q))
 have hx:∀(a:Act),(execOp a.eval ⟨some dr,.call ⟨.builtin .recover,#[],#[]⟩,t1,p1,a1,none⟩).run P w=.ok .recover w:=λa=>by
  simp[execOp,resolve,invoke,builtin]
 have hy:∀(a:Act),a.tmps[dr]?=some r->(execOp a.eval ⟨some d2,.assign (.tmp dr),t2,p2,a2,none⟩).run P w=.ok (.value r) w:=λa h=>by
  simp[execOp,Act.eval,h]
 have hget:=fr1.get dr r (by simp[look]);show wpOpsS P _ _ [0,1] _ (c0::cs) w;refine c1E rfl rfl (hx _) (λv cs' e=>?_) (λe=>?_)
 ·rcases hrec c0 cs hu with h1|⟨h1,_⟩
  ·rw[h1]at e
   cases e;exact b3K rfl rfl (hy _ hget) (fin _ rfl)
  ·rw[h1]at e
   cases e
 ·rcases hrec c0 cs hu with h1|⟨_,rfl,rfl⟩
  ·rw[h1]at e
   cases e
  ·exact b3K rfl rfl (hy _ hget) (fin _ (by rw[<-hu]))
theorem b4u{u:FrameMode}(hu:u=.returning)(c0:Frame)(cs:List Frame)(h:c0.mode=u):(recoverD (c0::cs)=some (Value.nilIface,{ c0 with mode:=u }::cs))\/(recoverD (c0::cs)=none/\Value.nilIface=Value.nilIface/\u=u):=by subst hu;refine .inr ⟨?_,rfl,rfl⟩;simp only[recoverD,h]
theorem b4z{v:Value}(c0:Frame)(cs:List Frame)(h:c0.mode=.panicking [{ v:=v,recovered:=false }]):(recoverD (c0::cs)=some (v,{ c0 with mode:=.panicking [{ v:=v,recovered:=true }] }::cs))\/(recoverD (c0::cs)=none/\v=Value.nilIface/\(.panicking [{ v:=v,recovered:=true }]:FrameMode)=.panicking [{ v:=v,recovered:=false }]):=by refine .inl ?_;simp only[recoverD,h]
theorem a9s(v:Value):settle (.panicking [{ v:=v,recovered:=true }])=.returning:=rfl
end
end Go.Eng
namespace Go.Eng
open Go Go.RowKit
section
variable {P:Program}{ops:Array Oper}{Q:Exit->Pw}{n:Cx}{F:Fm}{m:View}
variable {ty:TypeId}{pos:String}{after:Array Edge}{d:Nat}
theorem c3A{α:Type}{enc:α->Lv}{e sz:Nat}{xs:List α}{eff:List Nat}{t:Tl}{hs hp hp0:Lr}{r:Res}{i:Nat}{s:Tr}{f:Operand}{args:List Operand}{tys:Array TypeId}{vs first cap:Lv}{q:FuncId}
 (ho:ops[i]?=some ⟨some d,.call ⟨.value f,args.toArray,tys⟩,ty,pos,after,none⟩) (he:eff.contains i=true) (ef:Ev n F f (.func (.func q) first.toArray cap.toArray)) (ea:Evs n F args vs) (hdel:Del hp r hp0)
 (c:∀fr,CT P q (first++vs++cap) (r::(fr++(hp0++hs))) m (λv _ h'=>b5h enc e sz (fr++(hp0++hs)) xs v h')) (hd:d<n.num)
 (k:∀a c,SR P ops Q n eff t hs s ((d,.slice a xs.length c)::F) (.row (.slice a xs.length c) e sz xs.length (fl enc xs)::hp0) m):SR P ops Q n eff t hs (.op i s) F hp m:=⟨_,ho,λx hx=>by cases hx;exact hd,by
 rw[he];refine⟨λfr a w ha st=>⟨λ_=>?_,λh=>by simp[Region.wanted]at h⟩⟩;rw[Y8 ha ef ea (c fr).enter];have hpm:(fr++(hp++hs)).Perm (r::(fr++(hp0++hs))):=
  ((hdel.perm.append_right hs).append_left fr).trans qL
 refine Calls.mono ((c fr).calls w (st.perm hpm)) ?_;rintro e w' ⟨v',m',h',rfl,hle,hst,a1,c1,k1,rfl,rfl,rfl⟩;exact .inl ⟨_,rfl,m,_,View.le.refl m,(hst.perm (qL (l₁:=fr) (l₂:=hp0++hs)).symm).back hle,nofun,(k a1 c1).e⟩⟩
theorem H2{α:Type}{enc:α->Lv}{e sz:Nat}{xs:List α}{eff:List Nat}{t:Tl}{hs hp:Lr}{i:Nat}{s:Tr}{f:Operand}{args:List Operand}{tys:Array TypeId}{vs first cap:Lv}{q:FuncId}
 (ho:ops[i]?=some ⟨some d,.call ⟨.value f,args.toArray,tys⟩,ty,pos,after,none⟩) (he:eff.contains i=true) (ef:Ev n F f (.func (.func q) first.toArray cap.toArray)) (ea:Evs n F args vs)
 (c:∀fr,CT P q (first++vs++cap) (fr++(hp++hs)) m (λv _ h'=>b5h enc e sz (fr++(hp++hs)) xs v h')) (hd:d<n.num)
 (k:∀a c,SR P ops Q n eff t hs s ((d,.slice a xs.length c)::F) (.row (.slice a xs.length c) e sz xs.length (fl enc xs)::hp) m):SR P ops Q n eff t hs (.op i s) F hp m:=⟨_,ho,λx hx=>by cases hx;exact hd,by
 rw[he];refine⟨λfr a w ha st=>⟨λ_=>?_,λh=>by simp[Region.wanted]at h⟩⟩;rw[Y8 ha ef ea (c fr).enter];refine Calls.mono ((c fr).calls w st) ?_;rintro e w' ⟨v',m',h',rfl,hle,hst,a1,c1,k1,rfl,rfl,rfl⟩;exact .inl ⟨_,rfl,m,_,View.le.refl m,(hst.perm (qL (l₁:=fr) (l₂:=hp++hs)).symm).back hle,nofun,(k a1 c1).e⟩⟩
end
end Go.Eng
namespace Go.Eng
open Go Go.RowKit
section
variable {P:Program}{ops:Array Oper}{Q:Exit->Pw}{n:Cx}{F:Fm}{h hp hs:Lr}{m:View}
variable {ty:TypeId}{pos:String}{after:Array Edge}{d:Nat}{dst:Option Nat}{g:Option (Nat×Bool)}
theorem b6K{x i:Operand}{t e len:Nat}{u:TypeDesc}{k:IntKind}{j:Int}{q:Nat}{cs:Lv}{v:Value}(ht:P.underlying t=some (.array len e))(he:P.underlying e=some u)(hp:N5 u=true)
 (hsz:(P.info? e).map (·.size)=some 1) (ex:Ev n F x (.agg cs.toArray)) (ei:Ev n F i (.int k j)) (hj:j=(q:Int)) (hq:q<len) (hv:cs[q]?=some v) :
 PO P ⟨dst,.index t x i,ty,pos,after,g⟩ n F h m v:=.mk λb w ha _=>by
 subst hj;have e1:¬len<=q:=by omega
 have hs:(sizeOf e).run P w=.ok 1 w:=by
  cases hi:P.info? e with
  |none=>rw[hi]at hsz;cases hsz
  |some y=>rw[hi]at hsz;simp at hsz;simp[sizeOf,typeInfo,hi,hsz]
 simp[execOp,ex b ha,ei b ha,Instr.index,asIntOf,run_underlying ht,part,L2 w he hp,hs,hv,e1]
theorem a0V{eff tt:List Nat}{tl:Lo}{H:Lr}(htl:tt.filterMap (ops[·]?)=tl)(hH:(hp++hs).Perm H)(k:WL P ops Q n tl F H m):SR P ops Q n eff ⟨tt,[]⟩ hs .nil F hp m:=
 ⟨by subst htl;exact WL.perm hH k⟩
theorem a0o{α:Type}(bl l t:List α):(bl++(l++t)).Perm (l++(bl++t)):=by rw[<-qj,<-qj];exact je.append_right t
end
end Go.Eng
namespace Go.Eng
open Go Go.RowKit
section
variable {H:Type}{enc:TypeId×Value->H}{P:Program}{W:World}{held:Bool}{V8:Nat}{t:TypeId}{cs:Lv}{x:DataW H×List MemPlace}
end
end Go.Eng
end
namespace Go.Eng
section
open Go Go.RowKit
section
variable {P:Program}{Q:Exit->Pw}{n:Cx}{y:Code}
def KK(P:Program)(y:Code)(Q:Exit->Pw)(ro:Option Nat)(a:Act)(w:World):Prop:=y.wpIn (fen ro) 0 P (a0K Q) a w
theorem KKh:∀ds F h m,WC P y Q { n with ds:=ds } F h m->∀a w,Fr { n with ds:=ds } F a->St m h w->KK P y Q n.ro a w:=λ_ _ _ _ k=>k.e
end
section
variable {P:Program}{ops:Array Oper}{Q:Exit->Pw}{n:Cx}{F:Fm}{h h':Lr}{m:View}{rest:Lo}
variable {op:Op}{ty:TypeId}{pos:String}{after:Array Edge}{d:Nat}{v:Value}{dst:Option Nat}{g:Option (Nat×Bool)}
theorem Et{t:Nat}(h:look F t=some v:=by exact rfl):Ev n F (.tmp t) v:=Ev.tmp h
theorem Eg{t:Nat}{c:Bool}(hc:c=true)(h:look F t=some (gv c v):=by exact rfl):Ev n F (.tmp t) v:=a04 h hc
theorem E0:Evs n F [] []:=Evs.nil
theorem E1{x:Operand}(a:Ev n F x v):Evs n F [x] [v]:=.cons a .nil
theorem E2{x x2:Operand}{v2:Value}(a:Ev n F x v)(a2:Ev n F x2 v2):Evs n F [x,x2] [v,v2]:=.cons a (.cons a2 .nil)
theorem E3{x x2 x3:Operand}{v2 v3:Value}(a:Ev n F x v)(a2:Ev n F x2 v2)(a3:Ev n F x3 v3):Evs n F [x,x2,x3] [v,v2,v3]:=.cons a (.cons a2 (.cons a3 .nil))
theorem E4{x x2 x3 x4:Operand}{v2 v3 v4:Value}(a:Ev n F x v)(a2:Ev n F x2 v2)(a3:Ev n F x3 v3)(a4:Ev n F x4 v4):Evs n F [x,x2,x3,x4] [v,v2,v3,v4]:=.cons a (.cons a2 (.cons a3 (.cons a4 .nil)))
theorem Me{α:Type}{a:α}{l:List α}(h:List.Mem a l:=by repeat (first|exact c8g _|apply c8J)):List.Mem a l:=h
theorem Sb{α:Type}{l r:List α}(h:l.Sublist r:=by repeat (first|exact c9O _|exact c9R _ _|exact c8R _ _|refine c9K _ ?_|apply c9M|refine c9k _ ?_)):l.Sublist r:=h
theorem Up{r r':Res}{l l':Lr}(h:Upd l r r' l':=by repeat (first|exact Upd.here|apply Upd.next)):Upd l r r' l':=h
theorem De{r:Res}{l l':Lr}(h:Del l r l':=by repeat (first|exact Del.here|apply Del.next)):Del l r l':=h
theorem Rr{a:Oa}{k c sz:Nat}{xs:Lv}(hr:Rd m h a k c sz xs:=by first|assumption|exact Rd.ofSl (by assumption)|exact Rd.ofPt rfl (by decide) Me|exact Rd.mono (by assumption) (View.le.refl _) Sb|exact Rd.inRow Me (by assumption) (by assumption) (by assumption)):Rd m h a k c sz xs:=hr
theorem On{ys:Lv}(h:∀u∈ys,u.oneCell'=true:=by first|exact b5H rfl|exact b7P (λ_=>rfl) _):∀u∈ys,u.oneCell'=true:=h
theorem xG(hp:PO P ⟨some d,op,ty,pos,after,none⟩ n F h m v)(k:WL P ops Q n rest ((d,v)::F) h m)(hn:Nat.ble (d+1) n.num=true:=by exact rfl) :
 WL P ops Q n (⟨some d,op,ty,pos,after,none⟩::rest) F h m:=c9P hp (leB hn) k
theorem xM{t:Nat}(k:WL P ops Q n rest ((d,v)::F) h m)(h1:look F t=some v:=by exact rfl)(hn:Nat.ble (d+1) n.num=true:=by exact rfl) :
 WL P ops Q n (⟨some d,.move (.tmp t),ty,pos,after,none⟩::rest) F h m:=xG (PO.move (Ev.tmp h1)) k hn
theorem xK(k:WL P ops Q n rest ((d,v)::F) h m)(hn:Nat.ble (d+1) n.num=true:=by exact rfl) :
 WL P ops Q n (⟨some d,.move (.const v),ty,pos,after,none⟩::rest) F h m:=xG (PO.move Ev.const) k hn
theorem xA{t:Nat}(k:WL P ops Q n rest ((d,v)::F) h m)(h1:look F t=some v:=by exact rfl)(hn:Nat.ble (d+1) n.num=true:=by exact rfl) :
 WL P ops Q n (⟨some d,.assign (.tmp t),ty,pos,after,none⟩::rest) F h m:=xG (PO.assign (Ev.tmp h1)) k hn
theorem xC(k:WL P ops Q n rest ((d,v)::F) h m)(hn:Nat.ble (d+1) n.num=true:=by exact rfl) :
 WL P ops Q n (⟨some d,.assign (.const v),ty,pos,after,none⟩::rest) F h m:=xG (PO.assign Ev.const) k hn
theorem xE{t i:Nat}{vs:Array Value}(k:WL P ops Q n rest ((d,v)::F) h m)(h1:look F t=some (.tuple vs):=by exact rfl)(h2:vs[i]?=some v:=by exact rfl)(hn:Nat.ble (d+1) n.num=true:=by exact rfl) :
 WL P ops Q n (⟨some d,.extract (.tmp t) i,ty,pos,after,none⟩::rest) F h m:=xG (PO.extract (Ev.tmp h1) h2) k hn
theorem xP{t u:Nat}{c b:Bool}(k:WL P ops Q n rest ((d,.bool (c&&b))::F) h m)(h1:look F t=some (.bool c):=by exact rfl)(h2:look F u=some (gv c (.bool b)):=by exact rfl)(hn:Nat.ble (d+1) n.num=true:=by exact rfl) :
 WL P ops Q n (⟨some d,.pick (.tmp t) (.tmp u) (.const (.bool false)),ty,pos,after,none⟩::rest) F h m:=xG (a6B h1 h2) k hn
theorem xQ{t u:Nat}{c b:Bool}(k:WL P ops Q n rest ((d,.bool (c||b))::F) h m)(h1:look F t=some (.bool c):=by exact rfl)(h2:look F u=some (gv (!c) (.bool b)):=by exact rfl)(hn:Nat.ble (d+1) n.num=true:=by exact rfl) :
 WL P ops Q n (⟨some d,.pick (.tmp t) (.const (.bool true)) (.tmp u),ty,pos,after,none⟩::rest) F h m:=xG (b2c h1 h2) k hn
theorem xF{x:Operand}{t i:Nat}{fs:Array Field}{f:Field}{b off:Nat}(ht:P.underlying t=some (.struct fs))(k:WL P ops Q n rest ((d,.pointer (some ⟨b,off+f.offset,none⟩))::F) h m)(hf:fs[i]?=some f:=by exact rfl)(hz:P.cellsOf f.type≠0:=by exact qf rfl)
 (ex:Ev n F x (.pointer (some ⟨b,off,none⟩)):=by exact Ev.tmp rfl) (hn:Nat.ble (d+1) n.num=true:=by exact rfl):WL P ops Q n (⟨some d,.fieldAddr t x i,ty,pos,after,none⟩::rest) F h m:=xG (PO.fieldAddr ht hf hz ex) k hn
theorem pL{x:Operand}{t:TypeId}{u:TypeDesc}{b off:Nat}{cs:Lv}{e:TypeId}{fz:Nat×Nat}(ht:P.underlying t=some u)(hp:N5 u=true:=by exact rfl)
 (ex:Ev n F x (.pointer (some ⟨b,off,none⟩)):=by exact Ev.tmp rfl) (hm:List.Mem (Res.pt b (.cells cs.toArray e fz)) h:=by repeat (first|exact c8g _|apply c8J)) (hv:cs[off]?=some v:=by exact rfl):PO P ⟨dst,.load t x,ty,pos,after,g⟩ n F h m v:=C8 ht hp ex hm hv
theorem pA{x:Operand}{t:TypeId}{u:TypeDesc}{b off:Nat}{cs:Lv}{e:TypeId}{fz:Nat×Nat}{vs:Lv}(ht:P.underlying t=some u)(hp:N5 u=false:=by exact rfl)
 (hq:(P.info? t).isSome=true:=by exact rfl) (ex:Ev n F x (.pointer (some ⟨b,off,none⟩)):=by exact Ev.tmp rfl) (hm:List.Mem (Res.pt b (.cells cs.toArray e fz)) h:=by repeat (first|exact c8g _|apply c8J)) (hv:seg cs off (P.cellsOf t)=some vs:=by exact rfl) :
 PO P ⟨dst,.load t x,ty,pos,after,g⟩ n F h m (.agg vs.toArray):=a0n ht hp hq ex hm hv
theorem pF{x:Operand}{t i:Nat}{fs:Array Field}{f:Field}{b off:Nat}(ht:P.underlying t=some (.struct fs))(hf:fs[i]?=some f:=by exact rfl)(hz:P.cellsOf f.type≠0:=by exact qf rfl)
 (ex:Ev n F x (.pointer (some ⟨b,off,none⟩)):=by exact Ev.tmp rfl):PO P ⟨dst,.fieldAddr t x i,ty,pos,after,g⟩ n F h m (.pointer (some ⟨b,off+f.offset,none⟩)):=PO.fieldAddr ht hf hz ex
theorem xS{x y:Operand}{t:TypeId}{b off:Nat}{cs cs' vs:Lv}{e:TypeId}(k:WL P ops Q n rest F h' m)(ex:Ev n F x (.pointer (some ⟨b,off,none⟩)):=by exact Ev.tmp rfl)(ey:Ev n F y v:=by first|exact Ev.tmp rfl|exact Ev.const)
 (hvs:W4 v=some vs:=by exact rfl) (hq:(P.info? t).map (·.size)=some vs.length:=by exact rfl) (h1:vs.all (·.oneCell')=true:=by exact rfl) (h0:vs.isEmpty=false:=by exact rfl) 
 (u:Upd h (.pt b (.cells cs.toArray e (0,0))) (.pt b (.cells cs'.toArray e (0,0))) h':=by repeat (first|exact Upd.here|apply Upd.next)) (hc:a1N cs off vs=some cs':=by exact rfl) :
 WL P ops Q n (⟨none,.store t x y,ty,pos,after,none⟩::rest) F h m:=WL.store hq ex ey hvs h1 h0 hc u k
theorem xW{t:TypeId}{z:Value}{zs:Lv}(k:∀b,WL P ops Q n rest ((d,.pointer (some ⟨b,0,none⟩))::F) (.pt b (.cells zs.toArray t (0,0))::h) m)(hz:(P.info? t).bind (·.zero)=some z:=by exact rfl)(hzs:W4 z=some zs:=by exact rfl)(hn:Nat.ble (d+1) n.num=true:=by exact rfl) :
 WL P ops Q n (⟨some d,.alloc t,ty,pos,after,none⟩::rest) F h m:=WL.alloc hz hzs (leB hn) k
theorem xX{x:Operand}{t:TypeId}{zs:Lv}(k:∀b,WL P ops Q n rest ((d,.pointer (some ⟨b,0,none⟩))::F) (.pt b (.cells zs.toArray t (0,0))::h) m)(ex:Ev n F x v:=by exact Ev.tmp rfl)(hzs:W4 v=some zs:=by exact rfl)(hn:Nat.ble (d+1) n.num=true:=by exact rfl) :
 WL P ops Q n (⟨some d,.box t x,ty,pos,after,none⟩::rest) F h m:=WL.box ex hzs (leB hn) k
theorem xD{x y:Operand}{t e:TypeId}{sz by_ l cap k c l':Nat}{a b:Oa}{xs ys zs:Lv}{hq:Value->Lr}(E:EL P t e sz by_)(ex:Ev n F x (.slice a l cap))(ey:Ev n F y (.slice b k c))(hl:l+k=l')(hz:xs++ys=zs)(kk:∀a' cap',WL P ops Q n rest ((d,.slice a' l' cap')::F) (hq (.slice a' l' cap')) m)
 (u:∀v',Upd h (.row (.slice a l cap) e sz l xs) (.row v' e sz l' zs) (hq v'):=by intro v';repeat (first|exact Upd.here|apply Upd.next)) (rd:Rd m h b k c sz ys:=by first|assumption|exact Rd.ofSl (by assumption)|exact Rd.ofPt rfl (by decide) Me|exact Rd.mono (by assumption) (View.le.refl _) Sb|exact Rd.inRow Me (by assumption) (by assumption) (by assumption))
 (h1:∀u∈ys,u.oneCell'=true:=by first|exact b5H rfl|exact b7P (λ_=>rfl) _) (h63:l'<=9223372036854775807:=by omega) (hbytes:l'*by_<=140737488355328:=by omega) (hn:Nat.ble (d+1) n.num=true:=by exact rfl) :
 WL P ops Q n (⟨some d,.call ⟨.builtin .append,#[x,y],#[t,t]⟩,ty,pos,after,none⟩::rest) F h m:=b6B E ex ey rd h1 hl hz h63 hbytes u (leB hn) kk
theorem xY{t e k:Nat}{sz by_:Nat}{ps:List (Nat×Operand)}{vs:List (Nat×Value)}{z:Value}{zs cs:Lv}(E:EL P t e sz by_)(ev:EvP n F ps vs)
 (kk:∀b,WL P ops Q n rest ((d,.slice (some ⟨b,0,none⟩) k k)::F) (.pt b (.cells cs.toArray e (0,0))::h) m) (hz:(P.info? e).bind (·.zero)=some z:=by exact rfl)
 (hzs:a8h z k=some zs:=by exact rfl) (hf:a4I (λi=>some (i*sz,sz)) zs vs=some cs:=by exact rfl) (hk:k*sz<=16777216:=by decide) (h0:Nat.beq (k*sz) 0=false:=by exact rfl) (hn:Nat.ble (d+1) n.num=true:=by exact rfl) :
 WL P ops Q n (⟨some d,.buildSlice t k ps.toArray,ty,pos,after,none⟩::rest) F h m:=WL.buildSlice E hz ev hzs hf hk h0 (leB hn) kk
theorem xf{args:List Operand}{tys:Array TypeId}{vs:Lv}{q:FuncId}(ea:Evs n F args vs)(c:CT P q vs h m (A5 h v))(k:WL P ops Q n rest ((d,v)::F) h m)(hn:Nat.ble (d+1) n.num=true:=by exact rfl) :
 WL P ops Q n (⟨some d,.call ⟨.value (.func q),args.toArray,tys⟩,ty,pos,after,none⟩::rest) F h m:=P6 (first:=[]) (cap:=[]) Ev.func ea (by simpa using c) (leB hn) k
theorem xg{args:List Operand}{tys:Array TypeId}{vs:Lv}{q:FuncId}{R:Value->Lr->Prop}(ea:Evs n F args vs)(c:CT P q vs h m (λv _ h'=>R v h'))(k:∀v h',R v h'->WL P ops Q n rest ((d,v)::F) h' m)(hn:Nat.ble (d+1) n.num=true:=by exact rfl) :
 WL P ops Q n (⟨some d,.call ⟨.value (.func q),args.toArray,tys⟩,ty,pos,after,none⟩::rest) F h m:=F9 (first:=[]) (cap:=[]) Ev.func ea (by simpa using c) (leB hn) k
theorem zG{gd:Nat×Bool}{c:Bool}(hp:c=true->PO P ⟨some d,op,ty,pos,after,some gd⟩ n F h m v)(k:WL P ops Q n rest ((d,gv c v)::F) h m)
 (hg:GU ops n F gd c:=by first|exact GU.t rfl rfl|exact GU.f rfl rfl|exact a0m rfl rfl|exact a4M rfl rfl) (hn:Nat.ble (d+1) n.num=true:=by exact rfl) :
 WL P ops Q n (⟨some d,op,ty,pos,after,some gd⟩::rest) F h m:=C2 hg hp (leB hn) k
theorem zM{gd:Nat×Bool}{c:Bool}{t:Nat}(k:WL P ops Q n rest ((d,gv c v)::F) h m)(h1:look F t=some v:=by exact rfl)
 (hg:GU ops n F gd c:=by first|exact GU.t rfl rfl|exact GU.f rfl rfl|exact a0m rfl rfl|exact a4M rfl rfl) (hn:Nat.ble (d+1) n.num=true:=by exact rfl) :
 WL P ops Q n (⟨some d,.move (.tmp t),ty,pos,after,some gd⟩::rest) F h m:=C2 hg (λ_=>PO.move (Ev.tmp h1)) (leB hn) k
theorem zV{gd:Nat×Bool}{c:Bool}{t:Nat}(k:WL P ops Q n rest ((d,gv c v)::F) h m)
 (hg:GU ops n F gd c:=by first|exact GU.t rfl rfl|exact GU.f rfl rfl|exact a0m rfl rfl|exact a4M rfl rfl) (h1:look F t=some (gv c v):=by exact rfl) (hn:Nat.ble (d+1) n.num=true:=by exact rfl) :
 WL P ops Q n (⟨some d,.move (.tmp t),ty,pos,after,some gd⟩::rest) F h m:=C2 hg (λhc=>PO.move (a04 h1 hc)) (leB hn) k
theorem zU{gd:Nat×Bool}(k:WL P ops Q n (⟨dst,op,ty,pos,after,none⟩::rest) F h m)
 (hg:GU ops n F gd true:=by first|exact GU.t rfl rfl|exact GU.f rfl rfl) :
 WL P ops Q n (⟨dst,op,ty,pos,after,some gd⟩::rest) F h m:=b6U hg rfl k
theorem kp(ts:List Nat){F':Fm}{K:Pw}{y:Code}(k:WC P y Q n F' h m)(hk:a3A F ts=some F':=by exact rfl)(hK:∀ds F h m,WC P y Q { n with ds:=ds } F h m->∀a w,Fr { n with ds:=ds } F a->St m h w->K a w:=by first|exact KKh|assumption):∀a w,Fr n F a->St m h w->K a w:=a8u hk (toK hK k)
theorem wn(ts:List Nat){F':Fm}{K:Pw}{y:Code}{Q':Exit->Pw}(k:WC P y Q n F' h m)(hq:Q' .normal=K:=by exact rfl)(hk:a3A F ts=some F':=by exact rfl)(hK:∀ds F h m,WC P y Q { n with ds:=ds } F h m->∀a w,Fr { n with ds:=ds } F a->St m h w->K a w:=by first|exact KKh|assumption) :
 WL P ops Q' n [] F h m:=WL.nil (hq▸a8u hk (toK hK k))
theorem wc{t:Nat}{x y:Code}{b:Bool}(kt:b=true->WC P x Q n F h m)(kf:b=false->WC P y Q n F h m)(h1:look F t=some (.bool b):=by exact rfl):WC P (.cond (.tmp t) x y) Q n F h m:=WC.cond (Ev.tmp h1) kt kf
theorem wR(hh:Lr){fn:Func}{m0:View}{R:Value->View->Lr->Prop}{r:ResultVar}(hR:R v m hh)(hfn:fn.results=#[r]:=by exact rfl)(h1:RV P n F h m r v:=by exact RV.tmp rfl)(hle:m0.le m:=by exact View.le.refl _)(hd:hh.Sublist h:=by repeat (first|exact c9O _|exact c9R _ _|exact c8R _ _|refine c9K _ ?_|apply c9M|refine c9k _ ?_))(hds:n.ds=[]:=by exact rfl) :
 ∀a w,Fr n F a->St m h w->bodyPost P fn (RQ m0 R) .ret a w:=c7E (.inl rfl) hfn h1 hle hd hR hds
theorem wV{l:Lo}{b b':Bool}(e:b=b')(k:WL P ops Q n l ((d,.bool b')::F) h m):WL P ops Q n l ((d,.bool b)::F) h m:=e▸k
theorem sk{x y:Code}(k:∀K:Pw,(∀ds F h m,WC P y Q { n with ds:=ds } F h m->∀a w,Fr { n with ds:=ds } F a->St m h w->K a w)->WC P x (Exit.then K Q) n F h m):WC P (.seq x y) Q n F h m:=c5Y k
theorem bk{id:Nat}{c:Code}(k:WC P c (Exit.inBlock id Q) n F h m):WC P (.block id c) Q n F h m:=WC.block k
theorem rg{id:Nat}{l:Lo}{G:List (Option Nat)}(k:∀ops:Array Oper,(∀j t,G[j]?=some (some t)->a3k ops j=some t)->WL P ops Q n l F h m)(hG:a9W l=some G:=by exact rfl):WC P (.region id l.toArray false) Q n F h m:=b0F hG k
theorem rn{id:Nat}{l:Lo}{G:List (Option Nat)}(k:∀ops:Array Oper,WL P ops Q n l F h m)(hG:a9W l=some G:=by exact rfl):WC P (.region id l.toArray false) Q n F h m:=b0F hG λo _=>k o
end
section
variable {P:Program}{ops:Array Oper}{Q:Exit->Pw}{n:Cx}{F:Fm}{m:View}{eff:List Nat}{t:Tl}{hs hp:Lr}{i:Nat}{s:Tr}
variable {op:Op}{ty:TypeId}{pos:String}{after:Array Edge}{d:Nat}{v:Value}
theorem yG(ho:ops[i]?=some ⟨some d,op,ty,pos,after,none⟩)(p:PO P ⟨some d,op,ty,pos,after,none⟩ n F hs m v)(k:SR P ops Q n eff t hs s ((d,v)::F) hp m)(he:eff.contains i=false:=by exact rfl)(hn:Nat.ble (d+1) n.num=true:=by exact rfl) :
 SR P ops Q n eff t hs (.op i s) F hp m:=b7K ho he p (leB hn) k
theorem yf{args:List Operand}{tys:Array TypeId}{vs:Lv}{q:FuncId}(ho:ops[i]?=some ⟨some d,.call ⟨.value (.func q),args.toArray,tys⟩,ty,pos,after,none⟩)(ea:Evs n F args vs)(c:∀fr,CT P q vs (fr++(hp++hs)) m (A5 (fr++(hp++hs)) v))(k:SR P ops Q n eff t hs s ((d,v)::F) hp m)
 (he:eff.contains i=true:=by exact rfl) (hn:Nat.ble (d+1) n.num=true:=by exact rfl) :
 SR P ops Q n eff t hs (.op i s) F hp m:=c3J (first:=[]) (cap:=[]) ho he Ev.func ea (λfr=>by simpa using c fr) (leB hn) k
end
section
variable {P:Program}{ops:Array Oper}{Q:Exit->Pw}{n:Cx}{F:Fm}{h h':Lr}{m:View}{rest:Lo}
def Pk(P:Program)(c:Code)(Q:Exit->Pw)(n:Cx)(F:Fm)(h:Lr)(m:View)(G:Prop):Prop:=G->WC P c Q n F h m
theorem pkS{x y:Code}{G:(Pw)->Prop}(p:∀K:Pw,Pk P x (Exit.then K Q) n F h m (G K)) :
 Pk P (.seq x y) Q n F h m (∀K:Pw,(∀ds F h m,WC P y Q { n with ds:=ds } F h m->∀a w,Fr { n with ds:=ds } F a->St m h w->K a w)->G K):=λg=>sk λK hK=>p K (g K hK)
theorem pkB{id:Nat}{c:Code}{G:Prop}(p:Pk P c (Exit.inBlock id Q) n F h m G):Pk P (.block id c) Q n F h m G:=λg=>bk (p g)
theorem pkR{id:Nat}{l:Lo}{G:List (Option Nat)}(hG:a9W l=some G:=by exact rfl):Pk P (.region id l.toArray false) Q n F h m (∀ops:Array Oper,WL P ops Q n l F h m):=λg=>rn g hG
theorem pkG{id:Nat}{l:Lo}{G:List (Option Nat)}(hG:a9W l=some G:=by exact rfl):Pk P (.region id l.toArray false) Q n F h m (∀ops:Array Oper,(∀j t,G[j]?=some (some t)->a3k ops j=some t)->WL P ops Q n l F h m):=λg=>rg g hG
theorem pkE{c:Code}:Pk P c Q n F h m (WC P c Q n F h m):=id
theorem gD{c:Code}{G:Prop}(k:G)(p:Pk P c Q n F h m G:=by(repeat first|(apply pkS;intro _)|apply pkB);first|exact pkR|exact pkE):WC P c Q n F h m:=p k
theorem gE{c:Code}{G:Prop}(k:G)(p:Pk P c Q n F h m G:=by(repeat first|(apply pkS;intro _)|apply pkB);exact pkE):WC P c Q n F h m:=p k
theorem gG{c:Code}{G:Prop}(k:G)(p:Pk P c Q n F h m G:=by(repeat first|(apply pkS;intro _)|apply pkB);exact pkG):WC P c Q n F h m:=p k
theorem Su{F F':Fm}(q:Sub F F':=by(repeat (first|exact Sub.nil|refine Sub.cons rfl ?_|refine Sub.consE rfl (by simp;done) ?_))):Sub F F':=q
theorem dS{id:Nat}{l:Lo}(eff:List Nat)(s:Tr)(t:List Nat)(hm:P.follows .mixedOrders=true){hs:Lr}(k:SR P l.toArray Q n eff ⟨t,[]⟩ hs s F [] m)(hQ:∀c a w d v,Q (.panic c) (a.put (some d) v) w->Q (.panic c) a w:=by exact λ_ _ _ _ _ h=>h)(ok:(!eff.contains 4096&&a4f l.toArray eff s [] t [])=true:=by kernel_rfl) :
 WC P (.region id l.toArray true) Q n F ([]++hs) m:=F4 eff s t hs [] hm hQ [] ok k
theorem Lb{a b:Nat}(h:Nat.ble a b=true:=by exact rfl):a<=b:=leB h
section
variable {op:BinOp}{kk:IntKind}{i j:Int}{v:Value}{t t':TypeId}{pos:String}{after:Array Edge}{ty:TypeId}{d x y:Nat}
theorem bB(k:WL P ops Q n rest ((d,v)::F) h m)(e1:look F x=some (.int kk i):=by exact rfl)(hv:iop op kk i j=some v:=by exact rfl)(hn:Nat.ble (d+1) n.num=true:=by exact rfl) :
 WL P ops Q n (⟨some d,.binOp op t (.tmp x) (.const (.int kk j)) t',ty,pos,after,none⟩::rest) F h m:=xG (O4 (Ev.tmp e1) Ev.const hv) k hn
theorem bD(k:WL P ops Q n rest ((d,v)::F) h m)(e1:look F x=some (.int kk i):=by exact rfl)(e2:look F y=some (.int kk j):=by exact rfl)(hv:iop op kk i j=some v:=by exact rfl)(hn:Nat.ble (d+1) n.num=true:=by exact rfl) :
 WL P ops Q n (⟨some d,.binOp op t (.tmp x) (.tmp y) t',ty,pos,after,none⟩::rest) F h m:=xG (O4 (Ev.tmp e1) (Ev.tmp e2) hv) k hn
theorem bI(k:WL P ops Q n rest ((d,.int .i64 (i+j))::F) h m)(e1:look F x=some (.int .i64 i):=by exact rfl)(h1:-9223372036854775808<=i+j/\i+j<=9223372036854775807:=by omega)(hn:Nat.ble (d+1) n.num=true:=by exact rfl) :
 WL P ops Q n (⟨some d,.binOp .add t (.tmp x) (.const (.int .i64 j)) t',ty,pos,after,none⟩::rest) F h m:=xG (K3 (Ev.tmp e1) Ev.const h1) k hn
end
theorem dF{p:Prop}[Decidable p](q:decide p=false):¬p:=zz q
theorem dT{p:Prop}[Decidable p](q:decide p=true):p:=zq q
end
section
variable {P:Program}{ops:Array Oper}{Q Q':Exit->Pw}{n:Cx}{F F':Fm}{h h':Lr}{m:View}{rest:Lo}{y:Code}{ts:List Nat}{id:Nat}{W G:Prop}
class Ud(P:Program)(t:TypeId)(u:outParam TypeDesc):Prop where h:P.underlying t=some u
class Es(P:Program)(t:TypeId)(e:outParam TypeId)(sz b:outParam Nat):Prop where h:EL P t e sz b
class Ln{α:Type}(e:α->Lv)(sz:outParam Nat):Prop where
 h:∀x,(e x).length=sz
 p:0<sz
theorem UU{t:TypeId}{u:TypeDesc}[i:Ud P t u]:P.underlying t=some u:=i.h
theorem LL{α:Type}{e:α->Lv}{sz:Nat}[i:Ln e sz]:∀x,(e x).length=sz:=i.h
section
variable {α:Type}{e:α->Lv}{x:Operand}{t:TypeId}{u:TypeDesc}{a:Oa}{len cap q sz o:Nat}{l:List α}{z:α}{v:Value}{vs:Lv}{dst:Option Nat}{ty:TypeId}{pos:String}{after:Array Edge}{g:Option (Nat×Bool)}
theorem pX[E:Ln e 1](ht:P.underlying t=some u)(hp:N5 u=true)(ex:Ev n F x (.pointer (elt a (q*1))))(hs:Rd m h a len cap 1 (fl e l))(hx:l[q]?=some z)(hv:e z=[v]):PO P ⟨dst,.load t x,ty,pos,after,g⟩ n F h m v:=b9Z ht hp E.h hs ex hx hv
theorem pY[E:Ln e sz](ht:P.underlying t=some u)(hp:N5 u=false)(hq:(P.info? t).isSome=true)(ex:Ev n F x (.pointer (elt a (q*sz))))(hs:Rd m h a len cap sz (fl e l))(hx:l[q]?=some z)(hv:e z=vs)(hl:P.cellsOf t=vs.length)(h0:0<vs.length):PO P ⟨dst,.load t x,ty,pos,after,g⟩ n F h m (.agg vs.toArray):=a2q ht hp hq E.h hs ex hx hv hl h0
theorem pZ[E:Ln e sz](ht:P.underlying t=some u)(hp:N5 u=true)(ex:Ev n F x (.pointer (elt a (q*sz+o))))(hs:Rd m h a len cap sz (fl e l))(hx:l[q]?=some z)(hv:(e z)[o]?=some v):PO P ⟨dst,.load t x,ty,pos,after,g⟩ n F h m v:=D2 ht hp E.h hs ex hx hv
end
theorem pE{α:Type}{e:α->Lv}{l:List α}{q:Nat}{z:α}{x:Operand}{t i o len cap sz:Nat}{fs:Array Field}{f:Field}{a:Oa}{dst:Option Nat}{ty:TypeId}{pos:String}{after:Array Edge}{g:Option (Nat×Bool)}[E:Ln e sz](ht:P.underlying t=some (.struct fs))(hf:fs[i]?=some f)(hz:P.cellsOf f.type≠0)(hs:Rd m h a len cap sz (fl e l))(hx:l[q]?=some z)(ex:Ev n F x (.pointer (elt a o))) :
 PO P ⟨dst,.fieldAddr t x i,ty,pos,after,g⟩ n F h m (.pointer (elt a (o+f.offset))):=D0 ht hf hz E.h E.p hs hx ex
theorem pI{x i:Operand}{t e:TypeId}{a:Oa}{len cap sz q b:Nat}{k:IntKind}{j:Int}{xs:Lv}{dst:Option Nat}{ty:TypeId}{pos:String}{after:Array Edge}{g:Option (Nat×Bool)}[E:Es P t e sz b](ex:Ev n F x (.slice a len cap))(ei:Ev n F i (.int k j))(hs:Rd m h a len cap sz xs)(hj:j=(q:Int))(hq:q<len) :
 PO P ⟨dst,.indexAddr t x i,ty,pos,after,g⟩ n F h m (.pointer (elt a (q*sz))):=D7 E.h.und E.h.size E.h.posz ex ei hs hj hq
structure Tg(ts:List Nat):Prop
theorem sq{x:Code}(k:WC P x (Exit.then (KK P y Q n.ro) Q) n F h m):WC P (.seq x y) Q n F h m:=WC.seq k
theorem rq{l:Lo}(k:WL P l.toArray Q n l F h m)(hG:l.all a0Z=true:=by exact rfl):WC P (.region id l.toArray false) Q n F h m:=.mk λa w ha hs=>b1u (by simpa using hG) (k.e a w ha hs)
theorem wnT(_:Tg ts)(k:WC P y Q n F' h m)(hq:Q' .normal=KK P y Q n.ro:=by exact rfl)(hk:a3A F ts=some F':=by exact rfl):WL P ops Q' n [] F h m:=WL.nil (hq▸a8u hk k.e)
theorem skT(_:Tg ts)(k:WC P y Q n F' h m)(hq:Q' .normal=KK P y Q n.ro:=by exact rfl)(hk:a3A F ts=some F':=by exact rfl):WC P .skip Q' n F h m:=WC.skip (hq▸a8u hk k.e)
theorem exT(_:Tg ts)(k:WC P y Q n F' h m)(hq:Q' (.exit id)=KK P y Q n.ro:=by exact rfl)(hk:a3A F ts=some F':=by exact rfl):WC P (.exit id) Q' n F h m:=WC.exit (hq▸a8u hk k.e)
structure Hd(G:Prop):Prop where g:G
theorem j0(k:G)(p:Hd G->W:=by intro g;(repeat first|refine sq ?_|refine bk ?_);first|exact rq g.g|exact g.g):W:=p ⟨k⟩
theorem jS(k:G)(p:Hd G->W:=by intro g;(repeat refine sq ?_);exact g.g):W:=p ⟨k⟩
theorem jE(k:G)(p:Hd G->W:=by intro g;(repeat first|refine sq ?_|refine bk ?_);exact g.g):W:=p ⟨k⟩
theorem cb{f:FuncId}{args:Lv}{R:Value->View->Lr->Prop}{fn:Func}{c:Code}{F0:Fm}{N:Nat}(k:WC P c (bodyPost P fn (RQ m R)) ⟨N,none,[]⟩ F0 h m)(he:∀as w,(callFunc f as).run P w=.ok (.enter f as) w:=by exact λ_ _=>rfl)(hf:P.funcs[f]?=some fn:=by exact rfl)(hb:fn.body=some c:=by exact rfl)(hN:fn.ntmps=N:=by exact rfl)(hl:Nat.ble args.length N=true:=by exact rfl)(hF:a3l 0 args=some F0:=by exact rfl):CT P f args h m R:=CT.body he hf hb hN (leB hl) hF k
theorem Eb{ps:List (Nat×Operand)}{vs:List (Nat×Value)}(h:EvP n F ps vs:=by(repeat (apply EvP.cons;first|exact Ev.const|exact Et));exact EvP.nil):EvP n F ps vs:=h
theorem jw(k:G)(p:Hd G->W:=by intro g;(first|(show WL _ _ _ _ (⟨_,.move _,_,_,_,none⟩::_) _ _ _;first|refine xM ?_|refine xK ?_)|(show WL _ _ _ _ (⟨_,.assign _,_,_,_,none⟩::_) _ _ _;first|refine xA ?_|refine xC ?_)|(show WL _ _ _ _ (⟨_,.fieldAddr _ _ _,_,_,_,none⟩::_) _ _ _;first|refine xF UU ?_|refine xG (pE UU rfl (qf rfl) Rr (by assumption) (Ev.tmp rfl)) ?_)|(show WL _ _ _ _ (⟨_,.load _ _,_,_,_,none⟩::_) _ _ _;first|refine xG (pL UU) ?_|refine xG (pA UU) ?_|refine xG (pZ UU rfl (by exact Ev.tmp rfl) Rr (by assumption) (by exact rfl)) ?_|refine xG (pX UU rfl (by exact Ev.tmp rfl) Rr (by assumption) (by exact rfl)) ?_|refine xG (pY UU rfl rfl (by exact Ev.tmp rfl) Rr (by assumption) (by exact rfl) (by exact rfl) (by exact qu _)) ?_)|(show WL _ _ _ _ (⟨_,.store _ _ _,_,_,_,none⟩::_) _ _ _;refine xS ?_)|(show WL _ _ _ _ (⟨_,.binOp _ _ _ _ _,_,_,_,none⟩::_) _ _ _;first|refine bI ?_|refine bB ?_|refine bD ?_)|(show WL _ _ _ _ (⟨_,.pick _ _ _,_,_,_,none⟩::_) _ _ _;first|refine xP ?_|refine xQ ?_)|(show WL _ _ _ _ (⟨_,.extract _ _,_,_,_,none⟩::_) _ _ _;refine xE ?_)|(show WL _ _ _ _ (⟨_,.call _,_,_,_,none⟩::_) _ _ _;refine xG (R8 UU Et) ?_)|(show WL _ _ _ _ (⟨_,.unOp _ _ _,_,_,_,none⟩::_) _ _ _;refine xG (PO.not Et) ?_)|(show WL _ _ _ _ (⟨_,.build _ _,_,_,_,none⟩::_) _ _ _;refine xG (PO.build UU rfl rfl rfl Eb (by exact rfl)) ?_)|(show WL _ _ _ _ (⟨_,.indexAddr _ _ _,_,_,_,none⟩::_) _ _ _;refine xG (pI (Ev.tmp rfl) (Ev.tmp rfl) Rr rfl (by omega)) ?_)|(show WL _ _ _ _ (⟨_,.nilCheck _,_,_,_,none⟩::_) _ _ _;refine xG (PO.nilCheck Et) ?_));exact g.g):W:=p ⟨k⟩
theorem jg(k:G)(p:Hd G->W:=by intro g;(first|(show WL _ _ _ _ (⟨_,.move _,_,_,_,some _⟩::_) _ _ _;first|refine zV ?_|refine zM ?_)|(show WL _ _ _ _ (⟨_,.fieldAddr _ _ _,_,_,_,some _⟩::_) _ _ _;first|refine zG (λ_=>pF UU) ?_|refine zG (λhc=>PO.fieldAddr UU rfl (qf rfl) (Eg hc)) ?_)|(show WL _ _ _ _ (⟨_,.load _ _,_,_,_,some _⟩::_) _ _ _;first|refine zG (λhc=>C8 UU rfl (Eg hc) Me rfl) ?_|refine zG (λhc=>a0n UU rfl rfl (Eg hc) Me rfl) ?_)|(show WL _ _ _ _ (⟨_,.call _,_,_,_,some _⟩::_) _ _ _;refine zG (λhc=>R8 UU (Eg hc)) ?_)|(show WL _ _ _ _ (⟨_,.binOp _ _ _ _ _,_,_,_,some _⟩::_) _ _ _;first|refine zG (λhc=>O4 (Eg hc) Ev.const rfl) ?_|refine zG (λhc=>O4 (Eg hc) (Eg hc) rfl) ?_)|(show WL _ _ _ _ (⟨_,.unOp _ _ _,_,_,_,some _⟩::_) _ _ _;refine zG (λhc=>PO.not (Eg hc)) ?_));exact g.g):W:=p ⟨k⟩
theorem yY{eff:List Nat}{t:Tl}{hs hp:Lr}{i:Nat}{s:Tr}{o:Oper}(k:ops[i]?=some o->SR P ops Q n eff t hs (.op i s) F hp m)(ho:ops[i]?=some o:=by exact rfl):SR P ops Q n eff t hs (.op i s) F hp m:=k ho
theorem jy(k:G)(p:Hd G->W:=by intro g;(first|(show(_:Option Oper)=some ⟨_,.move _,_,_,_,none⟩->_;refine λe=>yG e (PO.move Et) ?_)|(show(_:Option Oper)=some ⟨_,.fieldAddr _ _ _,_,_,_,none⟩->_;first|refine λe=>yG e (pF UU) ?_|refine λe=>yG e (pE UU rfl (qf rfl) Rr (by assumption) (Ev.tmp rfl)) ?_)|(show(_:Option Oper)=some ⟨_,.load _ _,_,_,_,none⟩->_;first|refine λe=>yG e (pL UU) ?_|refine λe=>yG e (pA UU) ?_|refine λe=>yG e (pZ UU rfl (by exact Ev.tmp rfl) Rr (by assumption) (by exact rfl)) ?_|refine λe=>yG e (pX UU rfl (by exact Ev.tmp rfl) Rr (by assumption) (by exact rfl)) ?_|refine λe=>yG e (pY UU rfl rfl (by exact Ev.tmp rfl) Rr (by assumption) (by exact rfl) (by exact rfl) (by exact qu _)) ?_)|(show(_:Option Oper)=some ⟨_,.pick _ _ _,_,_,_,none⟩->_;refine λe=>yG e (a6B rfl rfl) ?_)|(show(_:Option Oper)=some ⟨_,.indexAddr _ _ _,_,_,_,none⟩->_;refine λe=>yG e (pI (Ev.tmp rfl) (Ev.tmp rfl) Rr rfl (by omega)) ?_)|(show(_:Option Oper)=some ⟨_,.nilCheck _,_,_,_,none⟩->_;refine λe=>yG e (PO.nilCheck Et) ?_));exact g.g):W:=p ⟨k⟩
theorem jz(k:G)(p:Hd G->W:=by intro g;(first|(show(_:Option Oper)=some ⟨_,.fieldAddr _ _ _,_,_,_,some _⟩->_;refine λe=>B2 e rfl (GU.t rfl rfl) (λhc=>PO.fieldAddr UU rfl (qf rfl) Et) Lb ?_)|(show(_:Option Oper)=some ⟨_,.load _ _,_,_,_,some _⟩->_;first|refine λe=>B2 e rfl (GU.t rfl rfl) (λhc=>C8 UU rfl (Eg hc) Me rfl) Lb ?_|refine λe=>B2 e rfl (GU.t rfl rfl) (λhc=>a0n UU rfl rfl (Eg hc) Me rfl) Lb ?_));exact g.g):W:=p ⟨k⟩
theorem j1(k:G)(p:Hd G->W:=by intro g;first|(show WL _ _ _ _ (⟨_,_,_,_,_,none⟩::_) _ _ _;exact jw g.g)|(show WL _ _ _ _ (⟨_,_,_,_,_,some _⟩::_) _ _ _;exact jg g.g)|(refine yY ?_;first|(show(_:Option Oper)=some ⟨_,_,_,_,_,none⟩->_;exact jy g.g)|(show(_:Option Oper)=some ⟨_,_,_,_,_,some _⟩->_;exact jz g.g))):W:=p ⟨k⟩
theorem kQ0(ts:List Nat)(k:G) (p:Tg ts->Hd G->W:=by
 intro t g;refine j0 ?_
 first|refine wnT t ?_|refine skT t ?_|refine exT t ?_
 exact j0 g.g):W:=p ⟨⟩ ⟨k⟩
theorem kP0(ts:List Nat)(k:G) (p:Tg ts->Hd G->W:=by
 intro t g;refine j0 ?_
 first|refine wnT t ?_|refine skT t ?_|refine exT t ?_
 exact jS g.g):W:=p ⟨⟩ ⟨k⟩
theorem kA1(k:G) (p:Hd G->W:=by
 intro g;refine j0 ?_
 refine j1 ?_;exact g.g):W:=p ⟨k⟩
theorem kQ1(ts:List Nat)(k:G) (p:Tg ts->Hd G->W:=by
 intro t g;refine j0 ?_
 refine j1 ?_;first|refine wnT t ?_|refine skT t ?_|refine exT t ?_
 exact j0 g.g):W:=p ⟨⟩ ⟨k⟩
theorem kP1(ts:List Nat)(k:G) (p:Tg ts->Hd G->W:=by
 intro t g;refine j0 ?_
 refine j1 ?_;first|refine wnT t ?_|refine skT t ?_|refine exT t ?_
 exact jS g.g):W:=p ⟨⟩ ⟨k⟩
theorem kA2(k:G) (p:Hd G->W:=by
 intro g;refine j0 ?_
 iterate 2 refine j1 ?_
 exact g.g):W:=p ⟨k⟩
theorem kQ2(ts:List Nat)(k:G) (p:Tg ts->Hd G->W:=by
 intro t g;refine j0 ?_
 iterate 2 refine j1 ?_
 first|refine wnT t ?_|refine skT t ?_|refine exT t ?_
 exact j0 g.g):W:=p ⟨⟩ ⟨k⟩
theorem kP2(ts:List Nat)(k:G) (p:Tg ts->Hd G->W:=by
 intro t g;refine j0 ?_
 iterate 2 refine j1 ?_
 first|refine wnT t ?_|refine skT t ?_|refine exT t ?_
 exact jS g.g):W:=p ⟨⟩ ⟨k⟩
theorem kA3(k:G) (p:Hd G->W:=by
 intro g;refine j0 ?_
 iterate 3 refine j1 ?_
 exact g.g):W:=p ⟨k⟩
theorem kQ3(ts:List Nat)(k:G) (p:Tg ts->Hd G->W:=by
 intro t g;refine j0 ?_
 iterate 3 refine j1 ?_
 first|refine wnT t ?_|refine skT t ?_|refine exT t ?_
 exact j0 g.g):W:=p ⟨⟩ ⟨k⟩
theorem kP3(ts:List Nat)(k:G) (p:Tg ts->Hd G->W:=by
 intro t g;refine j0 ?_
 iterate 3 refine j1 ?_
 first|refine wnT t ?_|refine skT t ?_|refine exT t ?_
 exact jS g.g):W:=p ⟨⟩ ⟨k⟩
theorem kA4(k:G) (p:Hd G->W:=by
 intro g;refine j0 ?_
 iterate 4 refine j1 ?_
 exact g.g):W:=p ⟨k⟩
theorem kQ4(ts:List Nat)(k:G) (p:Tg ts->Hd G->W:=by
 intro t g;refine j0 ?_
 iterate 4 refine j1 ?_
 first|refine wnT t ?_|refine skT t ?_|refine exT t ?_
 exact j0 g.g):W:=p ⟨⟩ ⟨k⟩
theorem kP4(ts:List Nat)(k:G) (p:Tg ts->Hd G->W:=by
 intro t g;refine j0 ?_
 iterate 4 refine j1 ?_
 first|refine wnT t ?_|refine skT t ?_|refine exT t ?_
 exact jS g.g):W:=p ⟨⟩ ⟨k⟩
theorem kA5(k:G) (p:Hd G->W:=by
 intro g;refine j0 ?_
 iterate 5 refine j1 ?_
 exact g.g):W:=p ⟨k⟩
theorem kQ5(ts:List Nat)(k:G) (p:Tg ts->Hd G->W:=by
 intro t g;refine j0 ?_
 iterate 5 refine j1 ?_
 first|refine wnT t ?_|refine skT t ?_|refine exT t ?_
 exact j0 g.g):W:=p ⟨⟩ ⟨k⟩
theorem kP5(ts:List Nat)(k:G) (p:Tg ts->Hd G->W:=by
 intro t g;refine j0 ?_
 iterate 5 refine j1 ?_
 first|refine wnT t ?_|refine skT t ?_|refine exT t ?_
 exact jS g.g):W:=p ⟨⟩ ⟨k⟩
theorem kA6(k:G) (p:Hd G->W:=by
 intro g;refine j0 ?_
 iterate 6 refine j1 ?_
 exact g.g):W:=p ⟨k⟩
theorem kQ6(ts:List Nat)(k:G) (p:Tg ts->Hd G->W:=by
 intro t g;refine j0 ?_
 iterate 6 refine j1 ?_
 first|refine wnT t ?_|refine skT t ?_|refine exT t ?_
 exact j0 g.g):W:=p ⟨⟩ ⟨k⟩
theorem kP6(ts:List Nat)(k:G) (p:Tg ts->Hd G->W:=by
 intro t g;refine j0 ?_
 iterate 6 refine j1 ?_
 first|refine wnT t ?_|refine skT t ?_|refine exT t ?_
 exact jS g.g):W:=p ⟨⟩ ⟨k⟩
theorem kA7(k:G) (p:Hd G->W:=by
 intro g;refine j0 ?_
 iterate 7 refine j1 ?_
 exact g.g):W:=p ⟨k⟩
theorem kQ7(ts:List Nat)(k:G) (p:Tg ts->Hd G->W:=by
 intro t g;refine j0 ?_
 iterate 7 refine j1 ?_
 first|refine wnT t ?_|refine skT t ?_|refine exT t ?_
 exact j0 g.g):W:=p ⟨⟩ ⟨k⟩
theorem kP7(ts:List Nat)(k:G) (p:Tg ts->Hd G->W:=by
 intro t g;refine j0 ?_
 iterate 7 refine j1 ?_
 first|refine wnT t ?_|refine skT t ?_|refine exT t ?_
 exact jS g.g):W:=p ⟨⟩ ⟨k⟩
theorem kA8(k:G) (p:Hd G->W:=by
 intro g;refine j0 ?_
 iterate 8 refine j1 ?_
 exact g.g):W:=p ⟨k⟩
theorem kQ8(ts:List Nat)(k:G) (p:Tg ts->Hd G->W:=by
 intro t g;refine j0 ?_
 iterate 8 refine j1 ?_
 first|refine wnT t ?_|refine skT t ?_|refine exT t ?_
 exact j0 g.g):W:=p ⟨⟩ ⟨k⟩
theorem kP8(ts:List Nat)(k:G) (p:Tg ts->Hd G->W:=by
 intro t g;refine j0 ?_
 iterate 8 refine j1 ?_
 first|refine wnT t ?_|refine skT t ?_|refine exT t ?_
 exact jS g.g):W:=p ⟨⟩ ⟨k⟩
theorem kA9(k:G) (p:Hd G->W:=by
 intro g;refine j0 ?_
 iterate 9 refine j1 ?_
 exact g.g):W:=p ⟨k⟩
theorem kQ9(ts:List Nat)(k:G) (p:Tg ts->Hd G->W:=by
 intro t g;refine j0 ?_
 iterate 9 refine j1 ?_
 first|refine wnT t ?_|refine skT t ?_|refine exT t ?_
 exact j0 g.g):W:=p ⟨⟩ ⟨k⟩
theorem kP9(ts:List Nat)(k:G) (p:Tg ts->Hd G->W:=by
 intro t g;refine j0 ?_
 iterate 9 refine j1 ?_
 first|refine wnT t ?_|refine skT t ?_|refine exT t ?_
 exact jS g.g):W:=p ⟨⟩ ⟨k⟩
theorem b8A(k:G) (p:Hd G->W:=by
 intro g;refine j0 ?_
 iterate 10 refine j1 ?_
 exact g.g):W:=p ⟨k⟩
theorem d0E(ts:List Nat)(k:G) (p:Tg ts->Hd G->W:=by
 intro t g;refine j0 ?_
 iterate 10 refine j1 ?_
 first|refine wnT t ?_|refine skT t ?_|refine exT t ?_
 exact j0 g.g):W:=p ⟨⟩ ⟨k⟩
theorem d0H(ts:List Nat)(k:G) (p:Tg ts->Hd G->W:=by
 intro t g;refine j0 ?_
 iterate 10 refine j1 ?_
 first|refine wnT t ?_|refine skT t ?_|refine exT t ?_
 exact jS g.g):W:=p ⟨⟩ ⟨k⟩
theorem d0J(k:G) (p:Hd G->W:=by
 intro g;refine j0 ?_
 iterate 11 refine j1 ?_
 exact g.g):W:=p ⟨k⟩
theorem d0K(ts:List Nat)(k:G) (p:Tg ts->Hd G->W:=by
 intro t g;refine j0 ?_
 iterate 11 refine j1 ?_
 first|refine wnT t ?_|refine skT t ?_|refine exT t ?_
 exact j0 g.g):W:=p ⟨⟩ ⟨k⟩
theorem d0G(ts:List Nat)(k:G) (p:Tg ts->Hd G->W:=by
 intro t g;refine j0 ?_
 iterate 11 refine j1 ?_
 first|refine wnT t ?_|refine skT t ?_|refine exT t ?_
 exact jS g.g):W:=p ⟨⟩ ⟨k⟩
theorem b0g(k:G) (p:Hd G->W:=by
 intro g;refine j0 ?_
 iterate 12 refine j1 ?_
 exact g.g):W:=p ⟨k⟩
theorem d0F(ts:List Nat)(k:G) (p:Tg ts->Hd G->W:=by
 intro t g;refine j0 ?_
 iterate 12 refine j1 ?_
 first|refine wnT t ?_|refine skT t ?_|refine exT t ?_
 exact j0 g.g):W:=p ⟨⟩ ⟨k⟩
theorem d0I(ts:List Nat)(k:G) (p:Tg ts->Hd G->W:=by
 intro t g;refine j0 ?_
 iterate 12 refine j1 ?_
 first|refine wnT t ?_|refine skT t ?_|refine exT t ?_
 exact jS g.g):W:=p ⟨⟩ ⟨k⟩
end
section
variable {P:Program}{ops:Array Oper}{Q:Exit->Pw}{n:Cx}{F:Fm}{h h' hh:Lr}{m m0:View}{rest:Lo}{v v2:Value}{r r2:ResultVar}{fn:Func}
theorem Ek{w:Value}:Ev n F (.const w) w:=Ev.const
theorem Ef{q:FuncId}:Ev n F (.func q) (.func (.func q) #[] #[]):=Ev.func
theorem Vl:m.le m:=View.le.refl m
theorem cA{p t:Nat}{u:TypeDesc}{b off:Nat}{cs:Lv}{e:TypeId}{fz:Nat×Nat}{vs:Lv}(ht:P.underlying t=some u)(hp:N5 u=false:=by exact rfl)(hq:(P.info? t).isSome=true:=by exact rfl)(hl:look F p=some (.pointer (some ⟨b,off,none⟩)):=by exact rfl)
 (hm:Res.pt b (.cells cs.toArray e fz)∈h:=by exact Me) (hv:seg cs off (P.cellsOf t)=some vs:=by exact rfl):RV P n F h m (.cell p t) (.agg vs.toArray):=W6 ht hp hq hl hm hv
theorem wT(hh:Lr){R:Value->View->Lr->Prop}(hR:R v m hh)(hQ:Q .ret=bodyPost P fn (RQ m0 R) .ret:=by exact rfl)(hfn:fn.results=#[r]:=by exact rfl)(h1:RV P n F h m r v:=by exact RV.tmp rfl)(hle:m0.le m:=by exact View.le.refl _)(hd:hh.Sublist h:=by exact Sb)(hds:n.ds=[]:=by exact rfl) :
 WC P .ret Q n F h m:=WC.ret (by rw[hQ];exact c7E (h':=hh) (.inl rfl) hfn h1 hle hd hR hds)
theorem xT(hh:Lr){R:Value->View->Lr->Prop}{X:Value->Lr->Prop}(hR:R v m hh)(hQ:Q .ret=bodyPost P fn (RX m0 R X) .ret:=by exact rfl)(hfn:fn.results=#[r]:=by exact rfl)(h1:RV P n F h m r v:=by exact RV.tmp rfl)(hle:m0.le m:=by exact View.le.refl _)(hd:hh.Sublist h:=by exact Sb)(hds:n.ds=[]:=by exact rfl) :
 WC P .ret Q n F h m:=WC.ret (by rw[hQ];exact toX (.inl rfl) (c7E (h':=hh) (.inl rfl) hfn h1 hle hd hR hds))
theorem w2(hh:Lr){R:Value->View->Lr->Prop}(hR:R (.tuple #[v,v2]) m hh)(hQ:Q .ret=bodyPost P fn (RQ m0 R) .ret:=by exact rfl)(hfn:fn.results=#[r,r2]:=by exact rfl)(h1:RV P n F h m r v:=by exact RV.tmp rfl)(h2:RV P n F h m r2 v2:=by exact RV.tmp rfl)(hle:m0.le m:=by exact View.le.refl _)(hd:hh.Sublist h:=by exact Sb)(hds:n.ds=[]:=by exact rfl) :
 WC P .ret Q n F h m:=WC.ret (by rw[hQ];exact c2s (h':=hh) (.inl rfl) hfn h1 h2 hle hd hR hds)
theorem w0(hh:Lr){R:Value->View->Lr->Prop}(hR:R (.tuple #[]) m hh)(hfn:fn.results=#[]:=by exact rfl)(hle:m0.le m:=by exact View.le.refl _)(hd:hh.Sublist h:=by exact Sb)(hds:n.ds=[]:=by exact rfl) :
 ∀a w,Fr n F a->St m h w->bodyPost P fn (RQ m0 R) .normal a w:=a6p (h':=hh) (.inr rfl) hfn hle hd hR hds
theorem sB{eff:List Nat}{t':Tl}{hs hp:Lr}{q d:Nat}{s:Tr}{t e k:Nat}{sz by_:Nat}{ps:List (Nat×Operand)}{vs:List (Nat×Value)}{z:Value}{zs cs:Lv}{ty:TypeId}{pos:String}{after:Array Edge}
 (ho:ops[q]?=some ⟨some d,.buildSlice t k ps.toArray,ty,pos,after,none⟩) (E:EL P t e sz by_) (kk:∀b,SR P ops Q n eff t' hs s ((d,.slice (some ⟨b,0,none⟩) k k)::F) (.pt b (.cells cs.toArray e (0,0))::hp) m) (ev:EvP n F ps vs:=by exact Eb) (he:eff.contains q=true:=by exact rfl) (hz:(P.info? e).bind (·.zero)=some z:=by exact rfl)
 (hzs:a8h z k=some zs:=by exact rfl) (hf:a4I (λi=>some (i*sz,sz)) zs vs=some cs:=by exact rfl) (hk:k*sz<=16777216:=by decide) (h0:Nat.beq (k*sz) 0=false:=by exact rfl) (hd:Nat.ble (d+1) n.num=true:=by exact rfl):SR P ops Q n eff t' hs (.op q s) F hp m:=SR.buildSlice ho he E hz ev hzs hf hk h0 (leB hd) kk
theorem pD(r:Res){l:Lo}(k:WL P ops Q n l F (r::h') m)(d:Del h r h':=by exact De):WL P ops Q n l F h m:=WL.perm (Del.perm d) k
theorem kR(a:Oa){l:Lo}{k cap sz:Nat}{e:TypeId}{ys:Lv}(kk:k<=cap->cap<=9223372036854775807->ys.length=k*sz->WL P ops Q n l F h m)(hm:Res.row (.slice a k cap) e sz k ys∈h:=by exact Me):WL P ops Q n l F h m:=a4E hm kk
theorem iR{a:Oa}{k cap sz:Nat}{e:TypeId}{ys:Lv}(hl:ys.length=k*sz)(hle:k<=cap)(hmx:cap<=9223372036854775807)(hm:Res.row (.slice a k cap) e sz k ys∈h:=by exact Me):Rd m h a k cap sz ys:=Rd.inRow hm hl hle hmx
end
section
variable {P:Program}{ops:Array Oper}{Q Q':Exit->Pw}{n:Cx}{F F':Fm}{h h1 h2:Lr}{m:View}{rest:Lo}{y:Code}{ts:List Nat}{id:Nat}{W G:Prop}{d:Nat}
structure Kp(ts:List Nat):Prop
theorem cB(ts:List Nat){f:FuncId}{args:Lv}{R:Value->View->Lr->Prop}{fn:Func}{c:Code}{F0:Fm}{N:Nat}(hf:P.funcs[f]?=some fn)(k:Kp ts->G)(he:∀as w,(callFunc f as).run P w=.ok (.enter f as) w:=by exact λ_ _=>rfl)
 (hN:fn.ntmps=N:=by conv=>lhs;whnf) (hb:fn.body=some c:=by exact rfl) (hl:args.length<=N:=by exact Lb) (hF:a3l 0 args=some F0:=by exact rfl) (p:Hd G->WC P c (bodyPost P fn (RQ m R)) ⟨N,none,[]⟩ F0 h m:=by intro g;exact j0 g.g):CT P f args h m R:=CT.body he hf hb hN hl hF (p ⟨k ⟨⟩⟩)
theorem xB(ts:List Nat){f:FuncId}{args:Lv}{R:Value->View->Lr->Prop}{X:Value->Lr->Prop}{fn:Func}{c:Code}{F0:Fm}{N:Nat}(hf:P.funcs[f]?=some fn)(k:Kp ts->G)(he:∀as w,(callFunc f as).run P w=.ok (.enter f as) w:=by exact λ_ _=>rfl)
 (hN:fn.ntmps=N:=by conv=>lhs;whnf) (hb:fn.body=some c:=by exact rfl) (hl:args.length<=N:=by exact Lb) (hF:a3l 0 args=some F0:=by exact rfl) (p:Hd G->WC P c (bodyPost P fn (RX m R X)) ⟨N,none,[]⟩ F0 h m:=by intro g;exact j0 g.g):CX P f args h m R X:=CX.body he hf hb hN hl hF (p ⟨k ⟨⟩⟩)
theorem cZ(ts:List Nat){f:FuncId}{args:Lv}{R:Value->View->Lr->Prop}{fn:Func}{c:Code}{F0:Fm}{N:Nat}(hf:P.funcs[f]?=some fn)(k:Kp ts->G)(he:∀as w,(callFunc f as).run P w=.ok (.enter f as) w:=by exact λ_ _=>rfl)
 (hN:fn.ntmps=N:=by conv=>lhs;whnf) (hb:fn.body=some c:=by exact rfl) (hl:args.length<=N:=by exact Lb) (hF:a3l 0 args=some F0:=by exact rfl) (p:Hd G->WC P c (bodyPost P fn (RQ m R)) ⟨N,none,[]⟩ F0 h m:=by intro g;exact g.g):CT P f args h m R:=CT.body he hf hb hN hl hF (p ⟨k ⟨⟩⟩)
theorem xZ(ts:List Nat){f:FuncId}{args:Lv}{R:Value->View->Lr->Prop}{X:Value->Lr->Prop}{fn:Func}{c:Code}{F0:Fm}{N:Nat}(hf:P.funcs[f]?=some fn)(k:Kp ts->G)(he:∀as w,(callFunc f as).run P w=.ok (.enter f as) w:=by exact λ_ _=>rfl)
 (hN:fn.ntmps=N:=by conv=>lhs;whnf) (hb:fn.body=some c:=by exact rfl) (hl:args.length<=N:=by exact Lb) (hF:a3l 0 args=some F0:=by exact rfl) (p:Hd G->WC P c (bodyPost P fn (RX m R X)) ⟨N,none,[]⟩ F0 h m:=by intro g;exact g.g):CX P f args h m R X:=CX.body he hf hb hN hl hF (p ⟨k ⟨⟩⟩)
theorem wnK(_:Kp ts)(k:WC P y Q n F' h m)(hq:Q' .normal=KK P y Q n.ro:=by exact rfl)(hk:a3A F ts=some F':=by exact rfl):WL P ops Q' n [] F h m:=WL.nil (hq▸a8u hk k.e)
theorem skK(_:Kp ts)(k:WC P y Q n F' h m)(hq:Q' .normal=KK P y Q n.ro:=by exact rfl)(hk:a3A F ts=some F':=by exact rfl):WC P .skip Q' n F h m:=WC.skip (hq▸a8u hk k.e)
theorem exK(_:Kp ts)(k:WC P y Q n F' h m)(hq:Q' (.exit id)=KK P y Q n.ro:=by exact rfl)(hk:a3A F ts=some F':=by exact rfl):WC P (.exit id) Q' n F h m:=WC.exit (hq▸a8u hk k.e)
def Wz(_:List Nat)(W:Prop):Prop:=W
theorem zJ{l:List Nat}{W1:Prop}(k:Wz l W1)(p:Hd W1->W:=by intro g;refine j0 ?_;exact g.g):Wz l W:=p ⟨k⟩
theorem zS{a:Nat}{r:List Nat}{W1:Prop}(k:Wz (a::r) W1)(p:Hd W1->W:=by intro g;refine j1 ?_;exact g.g):Wz ((a+1)::r) W:=p ⟨k⟩
theorem zN{a:Nat}{r:List Nat}{W1:Prop}(k:Wz (a::r) W1) (p:Hd W1->W:=by
 intro g;first|refine wnK (by assumption) ?_|refine skK (by assumption) ?_|refine exK (by assumption) ?_
 exact j0 g.g):Wz (0::a::r) W:=p ⟨k⟩
theorem zE(k:W):Wz [0] W:=k
theorem ZZ(l:List Nat)(k:G) (p:Hd G->Wz l W:=by
 intro g;refine zJ ?_
 repeat first|refine zS ?_|refine zN ?_
 exact zE g.g):W:=p ⟨k⟩
theorem Z0(k:G) (p:Hd G->W:=by
 intro g;refine j0 ?_
 first|refine wnK (by assumption) ?_|refine skK (by assumption) ?_|refine exK (by assumption) ?_
 exact j0 g.g):W:=p ⟨k⟩
theorem Z1(k:G) (p:Hd G->W:=by
 intro g;refine j0 ?_
 refine j1 ?_;first|refine wnK (by assumption) ?_|refine skK (by assumption) ?_|refine exK (by assumption) ?_
 exact j0 g.g):W:=p ⟨k⟩
theorem Z2(k:G) (p:Hd G->W:=by
 intro g;refine j0 ?_
 iterate 2 refine j1 ?_
 first|refine wnK (by assumption) ?_|refine skK (by assumption) ?_|refine exK (by assumption) ?_
 exact j0 g.g):W:=p ⟨k⟩
theorem Z3(k:G) (p:Hd G->W:=by
 intro g;refine j0 ?_
 iterate 3 refine j1 ?_
 first|refine wnK (by assumption) ?_|refine skK (by assumption) ?_|refine exK (by assumption) ?_
 exact j0 g.g):W:=p ⟨k⟩
theorem Z4(k:G) (p:Hd G->W:=by
 intro g;refine j0 ?_
 iterate 4 refine j1 ?_
 first|refine wnK (by assumption) ?_|refine skK (by assumption) ?_|refine exK (by assumption) ?_
 exact j0 g.g):W:=p ⟨k⟩
theorem Z5(k:G) (p:Hd G->W:=by
 intro g;refine j0 ?_
 iterate 5 refine j1 ?_
 first|refine wnK (by assumption) ?_|refine skK (by assumption) ?_|refine exK (by assumption) ?_
 exact j0 g.g):W:=p ⟨k⟩
theorem Z6(k:G) (p:Hd G->W:=by
 intro g;refine j0 ?_
 iterate 6 refine j1 ?_
 first|refine wnK (by assumption) ?_|refine skK (by assumption) ?_|refine exK (by assumption) ?_
 exact j0 g.g):W:=p ⟨k⟩
theorem Z7(k:G) (p:Hd G->W:=by
 intro g;refine j0 ?_
 iterate 7 refine j1 ?_
 first|refine wnK (by assumption) ?_|refine skK (by assumption) ?_|refine exK (by assumption) ?_
 exact j0 g.g):W:=p ⟨k⟩
theorem Z8(k:G) (p:Hd G->W:=by
 intro g;refine j0 ?_
 iterate 8 refine j1 ?_
 first|refine wnK (by assumption) ?_|refine skK (by assumption) ?_|refine exK (by assumption) ?_
 exact j0 g.g):W:=p ⟨k⟩
theorem Z9(k:G) (p:Hd G->W:=by
 intro g;refine j0 ?_
 iterate 9 refine j1 ?_
 first|refine wnK (by assumption) ?_|refine skK (by assumption) ?_|refine exK (by assumption) ?_
 exact j0 g.g):W:=p ⟨k⟩
theorem Z10(k:G) (p:Hd G->W:=by
 intro g;refine j0 ?_
 iterate 10 refine j1 ?_
 first|refine wnK (by assumption) ?_|refine skK (by assumption) ?_|refine exK (by assumption) ?_
 exact j0 g.g):W:=p ⟨k⟩
theorem Z11(k:G) (p:Hd G->W:=by
 intro g;refine j0 ?_
 iterate 11 refine j1 ?_
 first|refine wnK (by assumption) ?_|refine skK (by assumption) ?_|refine exK (by assumption) ?_
 exact j0 g.g):W:=p ⟨k⟩
theorem Z12(k:G) (p:Hd G->W:=by
 intro g;refine j0 ?_
 iterate 12 refine j1 ?_
 first|refine wnK (by assumption) ?_|refine skK (by assumption) ?_|refine exK (by assumption) ?_
 exact j0 g.g):W:=p ⟨k⟩
structure Bp(b:Bool)(p q:Prop):Prop where
 t:b=true->p
 f:b=false->q
theorem bpE{α:Type}[BEq α][LawfulBEq α]{x y:α}:Bp (x==y) (x=y) (x≠y):=⟨b5P,b2u⟩
theorem bpN{α:Type}[BEq α][LawfulBEq α]{x y:α}:Bp (x !=y) (x≠y) (x=y):=⟨d0o,d0c⟩
theorem bpD{p:Prop}[Decidable p]:Bp (decide p) p (¬p):=⟨zq,zz⟩
section
variable {t:Nat}{x y:Code}{b:Bool}{p q:Prop}
theorem wE(kt:p->WC P x Q n F h m)(kf:q->WC P y Q n F h m)(h1:look F t=some (.bool b):=by exact rfl)(hb:Bp b p q:=by exact bpE):WC P (.cond (.tmp t) x y) Q n F h m:=WC.cond (Ev.tmp h1) (λc=>kt (hb.t c)) λc=>kf (hb.f c)
theorem wN(kt:p->WC P x Q n F h m)(kf:q->WC P y Q n F h m)(h1:look F t=some (.bool b):=by exact rfl)(hb:Bp b p q:=by exact bpN):WC P (.cond (.tmp t) x y) Q n F h m:=WC.cond (Ev.tmp h1) (λc=>kt (hb.t c)) λc=>kf (hb.f c)
theorem wD(kt:p->WC P x Q n F h m)(kf:q->WC P y Q n F h m)(h1:look F t=some (.bool b):=by exact rfl)(hb:Bp b p q:=by exact bpD):WC P (.cond (.tmp t) x y) Q n F h m:=WC.cond (Ev.tmp h1) (λc=>kt (hb.t c)) λc=>kf (hb.f c)
end
theorem xJ{α:Type}{enc:α->Lv}{e sz:Nat}{xs:List α}{args:List Operand}{tys:Array TypeId}{vs:Lv}{q:FuncId}{pos:String}{after:Array Edge}{ty:TypeId}(ea:Evs n F args vs)(c:CT P q vs h m (λv _ h'=>b5h enc e sz h xs v h'))
 (k:∀a c,WL P ops Q n rest ((d,.slice a xs.length c)::F) (.row (.slice a xs.length c) e sz xs.length (fl enc xs)::h) m) (hn:Nat.ble (d+1) n.num=true:=by exact rfl) :
 WL P ops Q n (⟨some d,.call ⟨.value (.func q),args.toArray,tys⟩,ty,pos,after,none⟩::rest) F h m:=xg ea c (λ_ _ ⟨a,c,_,e1,e2,e3⟩=>by subst e1 e2 e3;exact k a c) hn
theorem pP(r r2:Res){l:Lo}(k:WL P ops Q n l F (r::r2::h2) m)(d1:Del h r h1:=by exact De)(d2:Del h1 r2 h2:=by exact De):WL P ops Q n l F h m:=WL.perm ((Del.perm d1).trans ((Del.perm d2).cons _)) k
end
section
variable {P:Program}{ops:Array Oper}{Q:Exit->Pw}{n:Cx}{F:Fm}{h:Lr}{m:View}
theorem mN{J:Fm->Lr->Prop}{Fi:Fm}(F'':Fm)(h'':Lr)(hJ:J F'' h'')(hs:Sub F F'':=by exact Su)(hi:Sub F Fi:=by exact Su)(hh:h''.Sublist h:=by exact Sb) :
 ∀a w,Fr n F a->St m h w->∃F' h',J F' h'/\Fr n (F'++Fi) a/\St m h' w:=b0b F'' hs hi hh hJ
theorem lN{J:Nat->Fm->Lr->Prop}{Fi:Fm}{μ:Nat}(μ':Nat)(F'':Fm)(h'':Lr)(hJ:J μ' F'' h'')(hlt:μ'<μ:=by omega)(hs:Sub F F'':=by exact Su)(hi:Sub F Fi:=by exact Su)(hh:h''.Sublist h:=by exact Sb) :
 ∀a w,Fr n F a->St m h w->∃μ' F'' h'',μ'<μ/\J μ' F'' h''/\Fr n (F''++Fi) a/\St m h'' w:=b9C μ' F'' hlt hs hi hh hJ
theorem lI{c:Code}(inv:List Nat)(J:Nat->Fm->Lr->Prop)(μ:Nat)(F0:Fm)(h0:Lr)(hJ:J μ F0 h0){Fi:Fm}
 (round:∀μ F' h',J μ F' h'->WC P c (Exit.then (λa w=>∃μ' F'' h'',μ'<μ/\J μ' F'' h''/\Fr n (F''++Fi) a/\St m h'' w) Q) n (F'++Fi) h' m) (hk:a3A F inv=some Fi:=by exact rfl) (hsub:Sub F F0:=by exact Su) (hh:h0.Sublist h:=by exact Sb) :
 WC P (.loop c) Q n F h m:=c3Q inv hk J μ F0 hsub hh hJ round
theorem w3(hh:Lr){m0:View}{v v2 v3:Value}{r r2 r3:ResultVar}{fn:Func}{R:Value->View->Lr->Prop}(hR:R (.tuple #[v,v2,v3]) m hh)(hQ:Q .ret=bodyPost P fn (RQ m0 R) .ret:=by exact rfl)(hfn:fn.results=#[r,r2,r3]:=by exact rfl)(h1:RV P n F h m r v:=by exact RV.tmp rfl)(h2:RV P n F h m r2 v2:=by exact RV.tmp rfl)(h3:RV P n F h m r3 v3:=by exact RV.tmp rfl)(hle:m0.le m:=by exact View.le.refl _)(hd:hh.Sublist h:=by exact Sb)(hds:n.ds=[]:=by exact rfl) :
 WC P .ret Q n F h m:=WC.ret (by rw[hQ];exact c7o (h':=hh) (.inl rfl) hfn h1 h2 h3 hle hd hR hds)
theorem y0{W G G2:Prop}(k:G)(k2:G2) (p:Hd G->Hd G2->W:=by
 intro g f;refine j0 ?_
 first|refine wnK (by assumption) ?_|refine skK (by assumption) ?_|refine exK (by assumption) ?_
 refine j0 ?_;exact wc g.g f.g):W:=p ⟨k⟩ ⟨k2⟩
theorem y1{W G G2:Prop}(k:G)(k2:G2) (p:Hd G->Hd G2->W:=by
 intro g f;refine j0 ?_
 refine j1 ?_;first|refine wnK (by assumption) ?_|refine skK (by assumption) ?_|refine exK (by assumption) ?_
 refine j0 ?_;exact wc g.g f.g):W:=p ⟨k⟩ ⟨k2⟩
theorem y2{W G G2:Prop}(k:G)(k2:G2) (p:Hd G->Hd G2->W:=by
 intro g f;refine j0 ?_
 iterate 2 refine j1 ?_
 first|refine wnK (by assumption) ?_|refine skK (by assumption) ?_|refine exK (by assumption) ?_
 refine j0 ?_;exact wc g.g f.g):W:=p ⟨k⟩ ⟨k2⟩
theorem y3{W G G2:Prop}(k:G)(k2:G2) (p:Hd G->Hd G2->W:=by
 intro g f;refine j0 ?_
 iterate 2 refine j1 ?_
 first|refine wnK (by assumption) ?_|refine skK (by assumption) ?_|refine exK (by assumption) ?_
 refine j0 ?_;exact wE g.g f.g):W:=p ⟨k⟩ ⟨k2⟩
theorem y4{W G G2:Prop}(k:G)(k2:G2) (p:Hd G->Hd G2->W:=by
 intro g f;refine j0 ?_
 refine j1 ?_;first|refine wnK (by assumption) ?_|refine skK (by assumption) ?_|refine exK (by assumption) ?_
 refine j0 ?_;exact wD g.g f.g):W:=p ⟨k⟩ ⟨k2⟩
theorem nS{eff tt:List Nat}{tl:Lo}{H hp hs:Lr}(k:WL P ops Q n tl F H m)(htl:tt.filterMap (ops[·]?)=tl:=by exact rfl)(hH:b7d hp hs=some H:=by exact rfl):SR P ops Q n eff ⟨tt,[]⟩ hs .nil F hp m:=SR.nil htl hH k
end
end
end Go.Eng
namespace Go.Lx
abbrev B:=List UInt8
def ltr(z:Int):Bool:=(decide (z>=97)&&decide (z<=122))||(decide (z>=65)&&decide (z<=90))
def b6y(z:Int):Bool:=(decide (z>=65)&&decide (z<=90))||(decide (z>=97)&&decide (z<=122))
def dig(z:Int):Bool:=decide (z>=48)&&decide (z<=57)
def wch(c:UInt8):Bool:=!(!ltr c.toNat&&!dig c.toNat&&((c.toNat:Int) !=46))
def b2M(z:Int):Bool:=b6y z||dig z||(z==46)
def run:B->Nat
 | []=>0
 |c::l=>if wch c then run l+1 else 0
theorem a4Q:∀l,run l<=l.length
 | []=>qz _
 |c::l=>by
  unfold run;have:=a4Q l;split<;>simp<;>omega
theorem a9e{l:B}{k:Nat}{c:UInt8}(hc:l[k]?=some c):run (l.drop k)=if wch c then run (l.drop (k+1))+1 else 0:=by have h1:k<l.length:=(qd.1 hc).1;rw[qq h1,(qd.1 hc).2];rfl
def a7j:B:=[32,65,70,84,69,82,32,65,76,84,32,65,78,68,32,66,79,79,76,32,66,89,84,69,32,67,65,83,69,32,67,72,65,78,32,69,76,83,69,32,70,65,76,83,69,32,70,79,82,32,73,70,32,73,78,84,32,73,83,32,77,73,78,85,83,32,78,79,84,32,79,70,32,79,82,32,80,65,82,32,80,76,65,67,69,68,32,80,76,85,83,32,80,82,73,32,80,82,79,67,32,80,82,79,67,69,83,83,79,82,32,80,82,79,84,79,67,79,76,32,83,69,81,32,83,73,90,69,32,83,75,73,80,32,83,84,79,80,32,84,73,77,69,82,32,84,73,77,69,83,32,84,82,85,69,32,86,65,76,32,87,72,73,76,69,32]
def key(s:B):Bool:=!(s==[])&&((run s:Int)==s.length)&&Lib.contains a7j ([32]++s++[32])
def name(s:B):Bool:=!(s==[])&&decide ((s.length:Int)<=32)&&(match s with|c::_=>ltr c.toNat|[]=>false)&&((run s:Int)==s.length)&&!key s
def a9Y:List B:=[[65,70,84,69,82],[65,76,84],[65,78,68],[66,79,79,76],[66,89,84,69],[67,65,83,69],[67,72,65,78],[69,76,83,69],[70,65,76,83,69],[70,79,82],[73,70],[73,78,84],[73,83],[77,73,78,85,83],[78,79,84],[79,70],[79,82],[80,65,82],[80,76,65,67,69,68],[80,76,85,83],[80,82,73],[80,82,79,67],[80,82,79,67,69,83,83,79,82],[80,82,79,84,79,67,79,76],[83,69,81],[83,73,90,69],[83,75,73,80],[83,84,79,80],[84,73,77,69,82],[84,73,77,69,83],[84,82,85,69],[86,65,76],[87,72,73,76,69]]
def a4a(s:B):List B->Bool
 | []=>false
 |x::l=>if x==s then true else a4a s l
theorem b6X(s:B){l:List B}{k:Nat}{x:B}(hx:l[k]?=some x):a4a s (l.drop k)=if x==s then true else a4a s (l.drop (k+1)):=by have h1:k<l.length:=(qd.1 hx).1;rw[qq h1,(qd.1 hx).2];rfl
theorem a2v(s:B):∀l,a4a s l=true↔s∈l
 | []=>by simp[a4a]
 |x::l=>by
  unfold a4a;split
  ·rename_i h;simp at h;simp[h]
  ·rename_i h
   have h':¬s=x:=λe=>h (by simp[e])
   rw[a2v s l];simp[h']
def c0e(s:B):Bool:=a4a s a9Y
def b0B:B->Bool
 | []=>true
 |c::l=>if b2M c.toNat then b0B l else false
theorem b9D{l:B}{k:Nat}{c:UInt8}(hc:l[k]?=some c):b0B (l.drop k)=if b2M c.toNat then b0B (l.drop (k+1))else false:=by have h1:k<l.length:=(qd.1 hc).1;rw[qq h1,(qd.1 hc).2];rfl
def bad(s:B):Bool:=decide ((s.length:Int)<1)||decide ((s.length:Int)>32)||(match s with|c::_=>!b6y c.toNat|[]=>false)||c0e s
def nameR(s:B):Bool:=if bad s then false else b0B s
def encB(s:B):Lv:=[Eng.str s]
theorem C0(s:B):(encB s).length=1:=rfl
@[reducible,instance]def iencB_len:=Go.Eng.Ln.mk C0 (by decide)
end Go.Lx
section
namespace Go.Xp
open Go.Eng
abbrev B:=List UInt8
inductive Ex where
 |mk (k o t n:Int) (s:B) (a:Oa) (c:Nat) (l:List Ex)
namespace Ex
def k:Ex->Int|mk k _ _ _ _ _ _ _=>k
def o:Ex->Int|mk _ o _ _ _ _ _ _=>o
def t:Ex->Int|mk _ _ t _ _ _ _ _=>t
def n:Ex->Int|mk _ _ _ n _ _ _ _=>n
def s:Ex->B|mk _ _ _ _ s _ _ _=>s
def a:Ex->Oa|mk _ _ _ _ _ a _ _=>a
def c:Ex->Nat|mk _ _ _ _ _ _ c _=>c
def l:Ex->List Ex|mk _ _ _ _ _ _ _ l=>l
end Ex
def exE(e:Ex):Lv:=[.int .u8 e.k,.int .u8 e.o,.int .u8 e.t,.int .i32 e.n,str e.s,.slice e.a e.l.length e.c]
theorem a5T(e:Ex):(exE e).length=6:=rfl
@[reducible,instance]def iexE_len:=Go.Eng.Ln.mk a5T (by decide)
def exV(e:Ex):Value:=.agg (exE e).toArray
inductive TOk(m:View)(h:Lr):Ex->Prop
 |mk {k o t n:Int} {s:B} {a:Oa} {c:Nat} {l:List Ex} (hr:Rd m h a l.length c 6 (fl exE l)) (hc:∀x∈l,TOk m h x):TOk m h (.mk k o t n s a c l)
theorem TOk.rd{m:View}{h:Lr}{e:Ex}(q:TOk m h e):Rd m h e.a e.l.length e.c 6 (fl exE e.l):=by cases q;assumption
theorem TOk.part{m:View}{h:Lr}{e x:Ex}(q:TOk m h e)(hx:x∈e.l):TOk m h x:=by cases q with|mk hr hc=>exact hc x hx
theorem TOk.mono{m:View}{h h':Lr}{e:Ex}(q:TOk m h e)(hh:h.Sublist h'):TOk m h' e:=by
 induction q with
 |mk hr _ ih=>exact .mk (hr.mono Vl hh) ih
inductive Wf:Ex->Prop
 |mk {k o t n:Int} {s:B} {a:Oa} {c:Nat} {l:List Ex} (hk:0<=k/\k<=255) (ho:0<=o/\o<=255) (ht:0<=t/\t<=255) (hn:-2147483648<=n/\n<=2147483647) (hs:s.length<=140737488355328) (hc:∀x∈l,Wf x):Wf (.mk k o t n s a c l)
theorem Wf.spec{e:Ex}(q:Wf e):((0<=e.k/\e.k<=255)/\(0<=e.o/\e.o<=255)/\(0<=e.t/\e.t<=255))/\((-2147483648<=e.n/\e.n<=2147483647)/\e.s.length<=140737488355328):=by cases q with|mk hk ho ht hn hs hc=>exact⟨⟨hk,ho,ht⟩,hn,hs⟩
theorem Wf.part{e x:Ex}(q:Wf e)(hx:x∈e.l):Wf x:=by cases q with|mk hk ho ht hn hs hc=>exact hc x hx
theorem Ex.ind{p:Ex->Prop}(h:∀e:Ex,(∀x∈e.l,p x)->p e)(e:Ex):p e:=
 Ex.rec (motive_1:=p) (motive_2:=λl=>∀x∈l,p x) (λk o t n s a c l ih=>h (.mk k o t n s a c l) ih) (λ_ hx=>by cases hx)
  (λy r hy hr x hx=>by
   rcases qQ.1 hx with rfl|hx
   ·exact hy
   ·exact hr x hx) e
mutual
def a6k:Ex->Nat
 | .mk _ _ _ _ _ _ _ l=>1+a4N l
def a4N:List Ex->Nat
 | []=>0
 |x::r=>a6k x+a4N r
end
theorem a0y(e:Ex):a6k e=1+a4N e.l:=by cases e;rfl
mutual
def c7H:Ex->List B
 | .mk k _ _ _ s _ _ l=>(if(k==4||k==5)||k==9 then[s]else[])++c2u l
def c2u:List Ex->List B
 | []=>[]
 |x::r=>c7H x++c2u r
end
theorem a3u{α:Type}{l:List α}{k:Nat}{c:α}(hc:l[k]?=some c):l.take (k+1)=l.take k++[c]:=by rw[List.take_add_one,hc];rfl
def b0O(x y:Ex):Bool:=((((((x.k !=y.k)||(x.o !=y.o))||(x.t !=y.t))||(x.n !=y.n))||(x.s !=y.s))||((x.l.length:Int) !=y.l.length))
mutual
def F5:Ex->Ex->Bool
 | .mk k o t n s a c l,y=>!b0O (.mk k o t n s a c l) y&&a1Q l y.l
def a1Q:List Ex->List Ex->Bool
 | [],_=>true
 |_::_,[]=>true
 |x::r,y::q=>F5 x y&&a1Q r q
end
theorem b0l(x y:Ex):F5 x y=(!b0O x y&&a1Q x.l y.l):=by cases x;rfl
theorem b4W{l q:List Ex}{k:Nat}{x y:Ex}(hx:l[k]?=some x)(hy:q[k]?=some y):a1Q (l.drop k) (q.drop k)=(F5 x y&&a1Q (l.drop (k+1)) (q.drop (k+1))):=by
 rw[show l.drop k=x::l.drop (k+1) by
  have h1:k<l.length:=(qd.1 hx).1;rw[qq h1,(qd.1 hx).2],
  show q.drop k=y::q.drop (k+1) by
   have h1:k<q.length:=(qd.1 hy).1;rw[qq h1,(qd.1 hy).2]]
 rfl
def fin(o t n:Int)(s:B):Bool:=(((o==0)&&(t==0))&&(n==0))&&(s==[])
def L3(k:Int):B:=if k=1 then[73,78,84]else if k=2 then[66,89,84,69]else if k=3 then[66,79,79,76]else[]
def F1(e:Ex):Int×Bool:=
 if e.k=1 then(0,fin e.o e.t 0 e.s)
 else if e.k=2 then(if a7i .i32 e.n 8≠0 then(0,false)else(0,fin e.o e.t 0 e.s))
 else if e.k=3 then(if a7i .i32 e.n 1≠0 then(0,false)else(0,fin e.o e.t 0 e.s))
 else if e.k=4 then(if !Go.Lx.name e.s then(0,false)else(0,fin e.o e.t e.n []))
 else if e.k=9 then(if !Go.Lx.name e.s then(0,false)else(0,fin e.o e.t e.n []))
 else if e.k=5 then(if !Go.Lx.name e.s then(0,false)else(1,fin e.o e.t e.n []))
 else if e.k=6 then(if decide (e.o<23)||decide (IntKind.u8.wrap (e.o-23)>=4)then(0,false)else(1,fin 0 e.t e.n e.s))
 else if e.k=7 then(if decide (e.o<1)||decide (e.o>22)then(0,false)else(2,fin 0 e.t e.n e.s))
 else if e.k=8 then(if L3 e.t==[]then(0,false)else(1,fin e.o 0 e.n e.s))
 else(0,false)
def a5k(deep left:Int)(e:Ex):Bool:=(((!(F1 e).2||decide (left-1<0))||decide (deep>32))||((e.l.length:Int) !=(F1 e).1))
mutual
def J4(deep left:Int):Ex->Option Int
 | .mk k o t n s a c l=>if a5k deep left (.mk k o t n s a c l)then none else a0D (deep+1) (left-1) l
def a0D(deep left:Int):List Ex->Option Int
 | []=>some left
 |x::r=>match J4 deep left x with
  |some q=>a0D deep q r
  |none=>none
end
theorem a2p(deep left:Int)(e:Ex):J4 deep left e=if a5k deep left e then none else a0D (deep+1) (left-1) e.l:=by cases e;rfl
theorem b1N{l:List Ex}{k:Nat}{x:Ex}(hx:l[k]?=some x)(deep left:Int):a0D deep left (l.drop k)=(J4 deep left x).bind λq=>a0D deep q (l.drop (k+1)):=by have h1:k<l.length:=(qd.1 hx).1;rw[qq h1,(qd.1 hx).2];show(match J4 deep left x with|some q=>a0D deep q (l.drop (k+1))|none=>none)=_;cases J4 deep left x<;>rfl
theorem a8O{deep left:Int}{e:Ex}(h:a5k deep left e=false):((F1 e).2=true/\0<=left-1)/\deep<=32/\(e.l.length:Int)=(F1 e).1:=by unfold a5k at h;simp only[qA,zy,decide_eq_false_iff_not,bne_eq_false_iff_eq]at h;obtain⟨⟨⟨h1,h2⟩,h3⟩,h4⟩:=h;exact⟨⟨h1,by omega⟩,by omega,h4⟩
theorem a3J(e:Ex):∀(deep left q:Int),0<=left->J4 deep left e=some q->0<=q/\q<=left-1:=by
 refine Ex.ind (p:=λe=>∀(deep left q:Int),0<=left->J4 deep left e=some q->0<=q/\q<=left-1) (λe ih deep left q hl hq=>?_) e;rw[a2p]at hq;split at hq
 ·cases hq
 ·rename_i hh
  have hb:=a8O (by simpa using hh);have key:∀(l:List Ex),(∀x∈l,x∈e.l)->∀z,0<=z->a0D (deep+1) z l=some q->0<=q/\q<=z:=by
   intro l;induction l with
   |nil=>intro _ z hz h;cases h;omega
   |cons x r ihr=>
    intro hm z hz h;unfold a0D at h;split at h
    ·rename_i p hp
     have h1:=ih x (hm x (by simp)) _ _ _ hz hp;have h2:=ihr (λy hy=>hm y (by simp[hy])) p h1.1 h;omega
    ·cases h
  exact key e.l (λ_ h=>h) (left-1) (by omega) hq
def K0(e:Ex):Bool:=(J4 1 256 e).isSome
def a1b:List B:=[[],[43],[45],[42],[47],[92],[80,76,85,83],[77,73,78,85,83],[84,73,77,69,83],[47,92],[92,47],[62,60],[60,60],[62,62],[61],[60,62],[60],[62],[60,61],[62,61],[65,78,68],[79,82],[65,70,84,69,82],[45],[77,73,78,85,83],[126],[78,79,84]]
def a0g(o:Int):B×Bool:=if o==0||decide (o>=27)then([],false)else(a1b.getD o.toNat [],true)
theorem P9{α:Type}{l:List α}{k:Nat}{c:α}(hc:l[k]?=some c):l.drop k=c::l.drop (k+1):=by have h1:k<l.length:=(qd.1 hc).1;rw[qq h1,(qd.1 hc).2]
end Go.Xp
end
namespace Go.Lx
theorem b6M(z:Int):ltr z=b6y z:=by unfold ltr b6y;rw[Bool.or_comm]
theorem b6n(c:UInt8):wch c=b2M c.toNat:=by unfold wch b2M;rw[<-b6M,bne];cases ltr c.toNat<;>cases dig c.toNat<;>simp
theorem b2G:∀s:B,((run s:Int)==s.length)=b0B s
 | []=>rfl
 |c::l=>by
  have ih:=b2G l;unfold run b0B;rw[b6n];cases b2M c.toNat
  ·simp;omega
  ·rw[<-ih]
   simp only[if_pos,qJ];rw[qH];simp
theorem c0f:b2M ((32:UInt8).toNat)=false:=by decide
theorem b7O:∀{s:B},b0B s=true->∀c∈s,c≠32
 | [],_,c,hc=>by cases hc
 |x::l,h,c,hc=>by
  unfold b0B at h;split at h
  ·rename_i hw
   rcases qQ.1 hc with rfl|hc
   ·rintro rfl
    rw[c0f]at hw;cases hw
   ·exact b7O h c hc
  ·cases h
theorem b2j:∀{s r:B},(∀c∈s,c≠32)->(s++32::r).takeWhile (· != 32)=s
 | [],_,_=>rfl
 |x::s,r,hs=>by
  have hx:(x !=32)=true:=by simpa using hs x (by simp)
  rw[qN,List.takeWhile_cons,hx,if_pos rfl,b2j λc hc=>hs c (qt _ hc)]
theorem b6S:∀i,i<200->(match (a7j.drop i).takeWhile (· != 32)with|[]=>true|w=>a4a w a9Y)=true\/a7j[i-1]?≠some 32:=by decide +kernel
theorem c5h:∀s∈a9Y,key s=true:=by decide +kernel
theorem key_eq(s:B):key s=c0e s:=by
 rw[qH];constructor
 ·intro h
  unfold key at h;rw[qa,qa,b2G]at h;obtain⟨⟨h0,h1⟩,h2⟩:=h;have hns:=b7O h1;unfold Lib.contains at h2;have h2:=zq h2;rcases Lib.index_spec a7j ([32]++s++[32])with⟨e,_⟩|⟨i,_,hi,ho,_⟩
  ·omega
  ·unfold Lib.occAt at ho
   obtain⟨r,hr⟩:=List.isPrefixOf_iff_prefix.1 ho;have h3:(a7j.drop i)[0]?=some 32:=by rw[<-hr];rfl
   have h4:a7j.drop (i+1)=s++32::r:=by rw[<-List.tail_drop,<-hr];simp
   rw[zL]at h3;have hlt:i<a7j.length:=(qd.1 h3).1;have hl:a7j.length<=198:=by decide +kernel
   rcases b6S (i+1) (by omega)with h5|h5
   ·rw[h4,b2j hns]at h5
    unfold c0e;cases s with
    |nil=>simp at h0
    |cons c s=>exact h5
   ·exact absurd h3 h5
 ·intro h
  exact c5h s ((a2v s _).1 h)
theorem name_eq(s:B):name s=nameR s:=by
 unfold name nameR bad;rw[b2G,key_eq];cases s with
 |nil=>rfl
 |cons c s=>
  simp only[b6M];have e:decide (((c::s).length:Int)<1)=false:=by simp;omega
  rw[e];have e2:decide (((c::s).length:Int)>32)=!decide (((c::s).length:Int)<=32):=by rw[<-decide_not];congr 1;simp[Int.not_le]
  rw[e2];rw[show(!(c::s==[]))=true from rfl];simp only[zC,qG];generalize decide (((c::s).length:Int)<=32)=x;generalize b6y c.toNat=y;generalize c0e (c::s)=z;generalize b0B (c::s)=u;cases x<;>cases y<;>cases z<;>cases u<;>rfl
end Go.Lx
namespace Go.Ty
section
open Go.Lx
structure Ty where
 kind:Int
 dim:Int
 item:Int
 proto:B
def zeroT:Ty:=⟨0,0,0,[]⟩
def E9(t:Ty):Lv:=[.int .u8 t.kind,.int .i64 t.dim,.int .u8 t.item,Eng.str t.proto]
def tyV(t:Ty):Value:=.agg (E9 t).toArray
def eqT(t u:Ty):Bool:=(t.kind==u.kind)&&((t.dim==u.dim)&&((t.item==u.item)&&((t.proto==u.proto)&&true)))
theorem eqT_iff(t u:Ty):eqT t u=true↔t=u:=by cases t;cases u;simp[eqT]
structure Tok where
 kind:Int
 at_:Int
 text:B
 n:Int
abbrev _root_.Lt:=List Tok
def zeroK:Tok:=⟨0,0,[],0⟩
def B1(t:Tok):Lv:=[.int .u8 t.kind,.int .i64 t.at_,Eng.str t.text,.int .i32 t.n]
theorem A7(t:Tok):(B1 t).length=4:=rfl
@[reducible,instance]def iencK_len:=Go.Eng.Ln.mk A7 (by decide)
def I6(t:Tok):Value:=.agg (B1 t).toArray
def eqK(t u:Tok):Bool:=(t.kind==u.kind)&&((t.at_==u.at_)&&((t.text==u.text)&&((t.n==u.n)&&true)))
theorem eqK_iff(t u:Tok):eqK t u=true↔t=u:=by cases t;cases u;simp[eqK]
structure Pm where
 kind:Int
 word:B
 size:Int
def c1f(p:Pm):Lv:=[.int .u8 p.kind,Eng.str p.word,.int .i64 p.size]
def wINT:B:=[73,78,84]
def wBYTE:B:=[66,89,84,69]
def wBOOL:B:=[66,79,79,76]
def prims:List Pm:=[⟨1,wINT,4⟩,⟨2,wBYTE,1⟩,⟨3,wBOOL,1⟩]
def wordIn(k:Int):List Pm->B×Int×Bool
 | []=>([],0,false)
 |p::l=>if p.kind==k then(p.word,p.size,true)else wordIn k l
theorem b5i(k:Int){l:List Pm}{i:Nat}{p:Pm}(hp:l[i]?=some p):wordIn k (l.drop i)=if p.kind==k then(p.word,p.size,true)else wordIn k (l.drop (i+1)):=by have h1:i<l.length:=(qd.1 hp).1;rw[qq h1,(qd.1 hp).2];rfl
def wordS(k:Int):B×Int×Bool:=wordIn k prims
def is(k:Int):Bool:=(wordS k).2.2
def prim(k:Int):Bool:=(k==1)||(k==2)||(k==3)
theorem b5B(k:Int):is k=prim k:=by unfold is wordS prims wordIn wordIn wordIn wordIn prim;rw[show((1:Int)==k)=(k==1) from jk,show((2:Int)==k)=(k==2) from jk,show((3:Int)==k)=(k==3) from jk];cases k==1<;>cases k==2<;>cases k==3<;>rfl
def far(t:Ty):Bool:=decide (t.dim<0)||decide (t.dim>64)
def timer:Ty:=⟨5,0,0,[]⟩
def may(t:Ty):Bool:=
 if far t then false
 else if is t.kind then(t.item==0)&&(t.proto==[])
 else if t.kind !=4 then eqT t timer
 else if t.item==0 then name t.proto
 else is t.item&&(t.proto==[])
def mayR(t:Ty):Bool:=
 if far t then false
 else if prim t.kind then(t.item==0)&&(t.proto==[])
 else if t.kind==4 then(prim t.item&&(t.proto==[]))||((t.item==0)&&nameR t.proto)
 else eqT t timer
theorem may_eq(t:Ty):may t=mayR t:=by
 unfold may mayR;rw[b5B,b5B,name_eq];cases far t
 ·cases prim t.kind
  ·simp only[qp,if_false]
   by_cases h4:t.kind=4
   ·simp only[h4,bne_self_eq_false,qp,if_false,zI,if_true]
    by_cases h0:t.item=0
    ·rw[h0];simp[prim]
    ·have:(t.item==0)=false:=by simpa using h0
     rw[this];simp
   ·have h:(t.kind==4)=false:=by simpa using h4
    simp[bne,h]
  ·rfl
 ·rfl
structure Vr where
 tag:B
 a:Oa
 n:Nat
 c:Nat
 items:List Int
def H3(k:Int):Lv:=[.int .u8 k]
theorem E5(k:Int):(H3 k).length=1:=rfl
@[reducible,instance]def iencI_len:=Go.Eng.Ln.mk E5 (by decide)
def encV(v:Vr):Lv:=[Eng.str v.tag,.slice v.a v.n v.c]
theorem D8(v:Vr):(encV v).length=2:=rfl
@[reducible,instance]def iencV_len:=Go.Eng.Ln.mk D8 (by decide)
structure VOk(m:Eng.View)(h:List Eng.Res)(v:Vr):Prop where
 rd:Eng.Rd m h v.a v.n v.c 1 (Eng.fl H3 v.items)
theorem VOk.mono{m m':Eng.View}{h h':List Eng.Res}{v:Vr}(o:VOk m h v)(hm:m.le m')(hh:h.Sublist h'):VOk m' h' v:=⟨o.rd.mono hm hh⟩
def prL(cs:Bool)(a:Oa)(k c:Nat):Lv:=[.bool cs,.slice a k c]
def prV(cs:Bool)(a:Oa)(k c:Nat):Value:=.agg (prL cs a k c).toArray
structure PrOk(m:Eng.View)(h:List Eng.Res)(a:Oa)(k c:Nat)(l:List Vr):Prop where
 rd:Eng.Rd m h a k c 2 (Eng.fl encV l)
 ok:∀v,v∈l->VOk m h v
 tag:∀v,v∈l->v.tag.length<=9223372036854775807
theorem PrOk.mono{m m':Eng.View}{h h':List Eng.Res}{a:Oa}{k c:Nat}{l:List Vr}(o:PrOk m h a k c l)(hm:m.le m')(hh:h.Sublist h'):PrOk m' h' a k c l:=
 ⟨o.rd.mono hm hh,λv hv=>(o.ok v hv).mono hm hh,o.tag⟩
def idxF{α:Type}(q:α->Bool):List α->Int->Int
 | [],_=>-1
 |x::l,k=>if q x then k else idxF q l (k+1)
theorem idxF_drop{α:Type}(q:α->Bool){l:List α}{i:Nat}{x:α}(hx:l[i]?=some x)(k:Int):idxF q (l.drop i) k=if q x then k else idxF q (l.drop (i+1)) (k+1):=by have h1:i<l.length:=(qd.1 hx).1;rw[qq h1,(qd.1 hx).2];rfl
theorem idxF_any{α:Type}(q:α->Bool):∀(l:List α)(k:Int),0<=k->decide (idxF q l k>=0)=l.any q
 | [],_,_=>rfl
 |x::l,k,hk=>by
  unfold idxF;rw[List.any_cons];cases h:q x
  ·rw[zC,<-idxF_any q l (k+1) (by omega)];rfl
  ·simp only[if_true,zl];exact zh hk
def itemsB(l:List Int)(least:Int):Bool:=decide ((l.length:Int)>=least)&&decide ((l.length:Int)<=8)&&!(l.any λk=>!is k)
def b2Q(l:List Int)(least:Int):Bool:=(l.all prim)&&(decide ((l.length:Int)>=least)&&decide ((l.length:Int)<=8))
theorem c1o(l:List Int)(least:Int):itemsB l least=b2Q l least:=by
 unfold itemsB b2Q;have:(!(l.any λk=>!is k))=l.all prim:=by
  rw[List.any_eq_not_all_not];simp only[Bool.not_not];congr 1
  funext k
  exact b5B k
 rw[this,Bool.and_comm]
def tagIn(tag:B)(l:List Vr):Bool:=l.any λw=>w.tag==tag
def badV(pre:List Vr)(v:Vr):Bool:=!name v.tag||!itemsB v.items 0||tagIn v.tag pre
def mayIn(pre:List Vr):List Vr->Bool
 | []=>true
 |v::r=>if badV pre v then false else mayIn (pre++[v]) r
theorem a9R{l:List Vr}{i:Nat}{v:Vr}(hv:l[i]?=some v):mayIn (l.take i) (l.drop i)=if badV (l.take i) v then false else mayIn (l.take (i+1)) (l.drop (i+1)):=by have h1:i<l.length:=(qd.1 hv).1;rw[Eng.take_snoc hv,qq h1,(qd.1 hv).2];rfl
def zeroV:Vr:=⟨[],none,0,0,[]⟩
def hdV(l:List Vr):Vr:=l.headD zeroV
theorem b2L{l:List Vr}(h:((l.length:Int)==1)=true):l[0]?=some (hdV l):=by
 cases l with
 |nil=>simp at h
 |cons v l=>rfl
def mayPr(cs:Bool)(l:List Vr):Bool:=
 if !cs then((l.length:Int)==1)&&((hdV l).tag==[])&&itemsB (hdV l).items 1
 else if decide ((l.length:Int)<1)||decide ((l.length:Int)>16)then false
 else mayIn [] l
theorem a8k:∀{l pre:List Vr},mayIn pre l=true->∀v,v∈l->v.items.length<=8
 | [],_,_,v,hv=>by cases hv
 |w::r,pre,h,v,hv=>by
  unfold mayIn at h;cases hb:badV pre w with
  |true=>rw[hb]at h;cases h
  |false=>
   rw[hb]at h;rcases qQ.1 hv with rfl|hv
   ·unfold badV itemsB at hb
    simp at hb;omega
   ·exact a8k h v hv
theorem mayPr_items{cs:Bool}{l:List Vr}(h:mayPr cs l=true):∀v,v∈l->v.items.length<=8:=by
 unfold mayPr at h;cases cs with
 |false=>
  simp only[zf,if_true,qa]at h;intro v hv;have h1:=b2L h.1.1;match l,h.1.1,hv with
  | [w],_,hv=>
   have:v=w:=by simpa using hv
   subst this;have h2:=h.2;unfold itemsB hdV at h2;simp at h2;omega
 |true=>
  simp only[zX,qp,if_false]at h;split at h
  ·cases h
  ·exact a8k h
theorem b6W(tag:B){l:List Vr}{i:Nat}{w:Vr}(hw:l[i]?=some w):tagIn tag (l.drop i)=((w.tag==tag)||tagIn tag (l.drop (i+1))):=by have h1:i<l.length:=(qd.1 hw).1;rw[qq h1,(qd.1 hw).2];rfl
def eqI(x y:Int):Bool:=x==y
theorem b2m(x y:Int):eqI x y=true↔x=y:=by simp[eqI]
theorem a2S{x y:Int}(h:(x !=y)=true):eqI x y=false:=by simpa [eqI]using h
theorem a3a{x y:Int}(h:(x !=y)=false):eqI x y=true:=by simpa [eqI]using h
theorem c8H{x y:Tok}(h:(!eqK x y)=true):eqK x y=false:=by simpa using h
theorem c7m{x y:Tok}(h:(!eqK x y)=false):eqK x y=true:=by simpa using h
end
end Go.Ty
namespace Go.Lx
section
open Go.Ty
def b3L:B:=[43,45,42,47,92,61,60,62,126,63,33,38,58,59,44,40,41,91,93]
def a5f:B:=[32,47,92,32,92,47,32,62,60,32,60,60,32,62,62,32,60,62,32,60,61,32,62,61,32,58,61,32]
def R4:B:=[48,49,50,51,52,53,54,55,56,57,65,66,67,68,69,70]
def a7e:B:=[99,110,116,115,39,34,42]
def a2N:B:=[13,10,9,32,39,34,42]
def sym:B->Bool
 | [a]=>Lib.contains b3L [a]
 | [a,b]=>((a.toNat:Int) !=32)&&((b.toNat:Int) !=32)&&Lib.contains a5f ([32]++[a,b]++[32])
 |_=>false
def mayK(t:Tok):Bool:=
 if decide (t.at_<0)||decide (t.at_>=256)then false
 else if t.kind==1 then(t.n==0)&&name t.text
 else if t.kind==2 then(t.n==0)&&key t.text
 else if t.kind==5 then(t.n==0)&&sym t.text
 else if t.kind==4 then(t.text==[])&&decide (t.n>=0)&&decide (t.n<256)
 else(t.kind==3)&&(t.text==[])
def a3C(r:B):Tok×Nat:=
 if key (r.take (run r))then(⟨2,0,r.take (run r),0⟩,run r)else if decide ((run r:Int)>32)then(zeroK,0)else(⟨1,0,r.take (run r),0⟩,run r)
def b0T:B->Int->Option Int
 | [],v=>some v
 |c::l,v=>if !dig c.toNat then none else b0T l (10*v+((c.toNat:Int)-48))
def b0o(r:B):Tok×Nat:=
 if decide ((run r:Int)>10)then(zeroK,0)else
 match b0T (r.take (run r)) 0 with
 |none=>(zeroK,0)
 |some v=>if v !=IntKind.i32.wrap v then(zeroK,0)else(⟨3,0,[],IntKind.i32.wrap v⟩,run r)
def a6n(c:UInt8):Int:=Lib.indexByte R4 c
def b3T:B->Int->Option Int
 | [],v=>some v
 |c::l,v=>if decide (a6n c<0)then none else b3T l (16*v+a6n c)
def a1A(s:B):Int×Bool:=
 match b3T s 0 with
 |none=>(0,false)
 |some v=>(v,!(s==[]))
def b1a(r:B):Tok×Nat:=
 if decide ((run (r.drop 1):Int)>8)then(zeroK,0)else
 if !(a1A ((r.drop 1).take (run (r.drop 1)))).2 then(zeroK,0)else
 (⟨3,0,[],IntKind.i32.wrap (a1A ((r.drop 1).take (run (r.drop 1)))).1⟩,1+run (r.drop 1))
def chB(s:B)(i:Nat):Int:=((s.getD i 0).toNat:Int)
def esc(c:UInt8):Int:=Lib.indexByte a7e c
def M4(s:B):Int×Nat:=
 if(s==[])||decide (chB s 0<32)||decide (chB s 0>126)||(chB s 0==39)then(0,0)
 else if chB s 0 !=42 then(chB s 0,1)
 else if decide ((s.length:Int)<2)then(0,0)
 else if decide (esc (s.getD 1 0)>=0)then(chB a2N (esc (s.getD 1 0)).toNat,2)
 else if(chB s 1 !=35)||decide ((s.length:Int)<4)then(0,0)
 else if !(a1A ((s.drop 2).take 2)).2 then(0,0)
 else((a1A ((s.drop 2).take 2)).1,4)
def noQ(s:B)(n:Nat):Bool:=((n:Int)==0)||((n:Int)==s.length)||(chB s n !=39)
def a0T(r:B):Tok×Nat:=
 if noQ (r.drop 1) (M4 (r.drop 1)).2 then(zeroK,0)else(⟨4,0,[],(M4 (r.drop 1)).1⟩,(M4 (r.drop 1)).2+2)
def a6X(r:B):Tok×Nat:=
 if decide (2<=r.length)&&sym (r.take 2)then(⟨5,0,r.take 2,0⟩,2)
 else if decide (1<=r.length)&&sym (r.take 1)then(⟨5,0,r.take 1,0⟩,1)
 else(zeroK,0)
def tok(r:B):Tok×Nat:=
 if ltr (chB r 0)then a3C r else if dig (chB r 0)then b0o r else if chB r 0==35 then b1a r else if chB r 0==39 then a0T r else a6X r
def a8z:Nat->B->Nat->Except Nat (Lt)
 |_,[],_=>.ok []
 |0,_::_,_=>.ok []
 |k+1,c::r,at_=>
  if(c.toNat:Int)==32 then a8z k r (at_+1)
  else if(tok (c::r)).2==0 then .error at_
  else match a8z k ((c::r).drop (tok (c::r)).2) (at_+(tok (c::r)).2)with
   | .ok l=>.ok ({ (tok (c::r)).1 with at_:=at_ }::l)
   | .error e=>.error e
def lexO(s:B):Lt×Int×Int:=
 if decide ((s.length:Int)>256)then([],0,3)
 else match a8z s.length s 0 with
  | .ok l=>(l,0,0)
  | .error a=>([],a,80)
set_option maxRecDepth 100000
theorem a0b{p:UInt8->Bool}(h:∀n,n<256->p (UInt8.ofNat n)=true)(c:UInt8):p c=true:=by have:=h c.toNat c.toNat_lt;rwa [UInt8.ofNat_toNat]at this
def a8t:List B:=[[43],[45],[42],[47],[92],[47,92],[92,47],[62,60],[60,60],[62,62],[61],[60,62],[60],[62],[60,61],[62,61],[126],[58,61],[63],[33],[38],[58],[59],[44],[40],[41],[91],[93]]
def b02(s:B):Bool:=a4a s a8t
theorem c7T:∀s∈a8t,sym s=true:=by decide +kernel
theorem c4B:∀c:UInt8,(sym [c]==b02 [c])=true:=a0b (by decide +kernel)
theorem b6p:∀i,i<28->(match a5f.drop i with|32::a::b::32::_=>a4a [a,b] a8t||a==32||b==32|_=>true)=true:=by decide +kernel
theorem b2Z(s:B):sym s=b02 s:=by
 match s with
 | []=>rfl
 | [a]=>simpa using c4B a
 | [a,b]=>
  rw[qH];constructor
  ·intro h
   unfold sym at h;simp only[qa]at h;obtain⟨⟨ha,hb⟩,h2⟩:=h;unfold Lib.contains at h2;have h2:=zq h2;rcases Lib.index_spec a5f ([32]++[a,b]++[32])with⟨e,_⟩|⟨i,_,hi,ho,_⟩
   ·omega
   ·unfold Lib.occAt at ho
    obtain⟨r,hr⟩:=List.isPrefixOf_iff_prefix.1 ho;have hlt:i<28:=by
     have hl:a5f.length=28:=rfl;rcases ze i 28 with h|h
     ·exact h
     ·rw[qb (by omega)]at hr;simp at hr
    have h5:=b6p i hlt;rw[<-hr]at h5;simp only[qN,zO,qv,qU]at h5;rcases h5 with(h5|h5)|h5
    ·exact h5
    ·subst h5;simp at ha
    ·subst h5;simp at hb
  ·intro h
   exact c7T _ ((a2v _ _).1 h)
 |a::b::c::s=>
  have:b02 (a::b::c::s)=false:=by
   cases h:b02 (a::b::c::s)with
   |false=>rfl
   |true=>have:=(a2v _ _).1 h;simp[a8t]at this
  rw[this];rfl
def a4w(base:Int)(c:UInt8):Int:=
 if(base==16)&&decide ((c.toNat:Int)>=65)&&decide ((c.toNat:Int)<=70)then(c.toNat:Int)-65+10 else if dig c.toNat then(c.toNat:Int)-48 else -1
def a4i(base:Int):B->Int->Option Int
 | [],v=>some v
 |c::l,v=>if decide (a4w base c<0)then none else a4i base l (base*v+a4w base c)
def a2c(s:B)(base most limit:Int):Int×Bool:=
 if decide ((s.length:Int)<1)||decide ((s.length:Int)>most)then(0,false)else
 match a4i base s 0 with
 |none=>(0,false)
 |some v=>(v,decide (v<limit))
theorem c8l(c:UInt8):a4w 10 c=if dig c.toNat then(c.toNat:Int)-48 else -1:=rfl
theorem c8e(c:UInt8):a6n c=a4w 16 c:=by simpa using a0b (p:=λc=>a6n c==a4w 16 c) (by decide +kernel) c
theorem b3t:∀(l:B)(v:Int),b0T l v=a4i 10 l v
 | [],v=>rfl
 |c::l,v=>by
  unfold b0T a4i;rw[c8l,b3t l];cases h:dig c.toNat with
  |false=>rfl
  |true=>
   have:decide ((c.toNat:Int)-48<0)=false:=by unfold dig at h;simp at h;simp;omega
   simp[this]
theorem a5B:∀(l:B)(v:Int),b3T l v=a4i 16 l v
 | [],v=>rfl
 |c::l,v=>by
  unfold b3T a4i;rw[c8e,a5B l]
theorem a2s(c:UInt8):a4w 16 c<16:=by simpa using a0b (p:=λc=>decide (a4w 16 c<16)) (by decide +kernel) c
theorem b1D(c:UInt8):a4w 10 c<10:=by simpa using a0b (p:=λc=>decide (a4w 10 c<10)) (by decide +kernel) c
theorem a0I{base:Int}(hb:1<=base)(hd:∀c,a4w base c<base):∀(l:B)(v r:Int),0<=v->a4i base l v=some r->0<=r/\r<(v+1)*base^l.length
 | [],v,r,hv,h=>by cases h;simp;omega
 |c::l,v,r,hv,h=>by
  unfold a4i at h;split at h
  ·cases h
  ·rename_i hc
   have hc0:0<=a4w base c:=by simpa using hc
   have hc1:=hd c;have h0:0<=base*v:=Int.mul_nonneg (by omega) hv;obtain⟨h1,h2⟩:=a0I hb hd l _ r (by omega) h;refine⟨h1,Int.lt_of_lt_of_le h2 ?_⟩;rw[qJ,Int.pow_succ,<-Int.mul_assoc,Int.mul_right_comm];refine Int.mul_le_mul_of_nonneg_right ?_ (Int.pow_nonneg (by omega));rw[Int.add_mul,Int.one_mul,Int.mul_comm v base];omega
theorem b4A(s:B)(n:Nat)(hn:s.length<=n)(lim:Int)(hl:16^n<=lim):a1A s=a2c s 16 n lim:=by
 unfold a1A a2c;rw[a5B];cases s with
 |nil=>rfl
 |cons c s=>
  have e:(decide (((c::s).length:Int)<1)||decide (((c::s).length:Int)>n))=false:=by simp at hn⊢;omega
  rw[e];simp only[qp,if_false];cases h:a4i 16 (c::s) 0 with
  |none=>rfl
  |some v=>
   have hb:=(a0I (by decide) a2s (c::s) 0 v (by decide) h).2;have hp:(16:Int)^(c::s).length<=16^n:=by exact_mod_cast z3 (by decide) hn
   simp only[Prod.mk.injEq,true_and];rw[show((c::s)==[])=false from rfl];symm;simp;omega
def a0l:List B:=[[42,99],[42,110],[42,116],[42,115],[42,39],[42,34],[42,42]]
def U3:List Int:=[13,10,9,32,39,34,42]
def a4J(s:B):List B->List Int->Option Int
 |x::l,v::k=>if s==x then some v else a4J s l k
 |_,_=>none
def X4(s:B):Int×Bool:=
 if((s.length:Int)==1)&&decide (chB s 0>=32)&&decide (chB s 0<=126)&&(s !=[39])&&(s !=[42])then(chB s 0,true)
 else match a4J s a0l U3 with
  |some v=>(v,true)
  |none=>if((s.length:Int)==4)&&(s.take 2==[42,35])then(IntKind.i32.wrap (a2c (s.drop 2) 16 2 256).1,(a2c (s.drop 2) 16 2 256).2)else(0,false)
def c5n(s:B)(n:Nat):Bool:=(X4 ((s.drop 1).take (n-2))).2&&(chB s (n-1)==39)
def a6j(s:B):List Nat->Tok×Nat
 | []=>(zeroK,0)
 |n::ns=>if !decide ((n:Int)<=s.length)then(zeroK,0)else if c5n s n then(⟨4,0,[],(X4 ((s.drop 1).take (n-2))).1⟩,n)else a6j s ns
def a3r(s:B):Tok×Nat:=a6j s [3,4,5,6]
theorem b5o(a:UInt8):X4 [a]=if(decide ((a.toNat:Int)>=32)&&decide ((a.toNat:Int)<=126)&&(a !=39)&&(a !=42))then((a.toNat:Int),true)else(0,false):=by have:=a0b (p:=λa=>X4 [a]==if(decide ((a.toNat:Int)>=32)&&decide ((a.toNat:Int)<=126)&&(a !=39)&&(a !=42))then((a.toNat:Int),true)else(0,false)) (by decide +kernel) a;simpa using this
theorem c0J(a b:UInt8):a4J [a,b] a0l U3=if a==42&&decide (esc b>=0)then some (chB a2N (esc b).toNat)else none:=by
 by_cases h:a=42
 ·subst h
  have:=a0b (p:=λb=>a4J [42,b] a0l U3==if decide (esc b>=0)then some (chB a2N (esc b).toNat)else none) (by decide +kernel) b;simpa using this
 ·have h':(a==42)=false:=by simpa using h
  rw[h'];simp[a4J,a0l,U3,h]
theorem a1M(a b:UInt8):X4 [a,b]=if a==42&&decide (esc b>=0)then(chB a2N (esc b).toNat,true)else(0,false):=by unfold X4;rw[show(([a,b].length:Int)==1)=false from rfl,show(([a,b].length:Int)==4)=false from rfl,c0J];simp only[zu,qp,if_false];cases (a==42&&decide (esc b>=0))<;>rfl
theorem b1f(s:B)(h:s.length≠2):a4J s a0l U3=none:=by
 have:∀x:B,x.length=2->(s==x)=false:=by
  intro x hx;cases e:s==x with
  |false=>rfl
  |true=>exact absurd (by rw[eq_of_beq e];exact hx) h
 simp[a4J,a0l,U3,this]
theorem T0(a b c:UInt8):X4 [a,b,c]=(0,false):=by unfold X4;rw[b1f _ (by simp)];rfl
theorem a9U{v:Int}(h:0<=v/\v<2147483648):IntKind.i32.wrap v=v:=by unfold IntKind.wrap;simp[IntKind.bits,IntKind.signed];omega
theorem a2w(a b c d:UInt8):X4 [a,b,c,d]=if(a==42)&&(b==35)then a1A [c,d]else(0,false):=by
 unfold X4;rw[b1f _ (by simp)];rw[show(([a,b,c,d].length:Int)==1)=false from rfl,show(([a,b,c,d].length:Int)==4)=true from rfl,show List.take 2 [a,b,c,d]=[a,b] from rfl,show List.drop 2 [a,b,c,d]=[c,d] from rfl];simp only[zu,qp,if_false,qG];rw[show([a,b]==[42,35])=((a==42)&&(b==35)) by rw[qH];simp];cases ((a==42)&&(b==35))with
 |false=>rfl
 |true=>
  simp only[if_true];rw[show a2c [c,d] 16 2 256=a1A [c,d] from(b4A [c,d] 2 (qz _) 256 (by decide)).symm];unfold a1A;rw[a5B];cases h:a4i 16 [c,d] 0 with
  |none=>rfl
  |some v=>have hb:=a0I (by decide) a2s [c,d] 0 v (by decide) h;have h2:v<256:=hb.2;simp only[a9U ⟨hb.1,by omega⟩]
theorem c2k(a:UInt8)(s:B)(i:Nat):chB (a::s) (i+1)=chB s i:=rfl
theorem a2B(a:UInt8)(s:B):chB (a::s) 0=(a.toNat:Int):=rfl
theorem q39(s : B)(i : Nat) : (chB s i == 39) = (s[i]? == some 39) := by
 unfold chB
 rw [ql]
 cases s[i]? with
 |none => rfl
 |some b =>
   simp only [Option.getD_some]
   rw [qH]
   simp
   constructor
   · intro h; exact UInt8.toNat.inj (by have : b.toNat = 39 := by exact_mod_cast h
                                        rw [this]; rfl)
   · rintro rfl; rfl
def a8x:Tok×Nat:=(zeroK,0)
theorem c04(a:UInt8)(t:B)(h:(decide ((a.toNat:Int)<32)||decide ((a.toNat:Int)>126)||(a==39))=true):M4 (a::t)=(0,0):=by
 have:((a::t==[])||decide (chB (a::t) 0<32)||decide (chB (a::t) 0>126)||(chB (a::t) 0==39))=true:=by rw[q39,a2B];simpa [Bool.or_assoc]using h
 unfold M4;rw[if_pos this]
theorem b01(a:UInt8)(t:B)(h:(decide ((a.toNat:Int)<32)||decide ((a.toNat:Int)>126)||(a==39))=false):((a::t==[])||decide (chB (a::t) 0<32)||decide (chB (a::t) 0>126)||(chB (a::t) 0==39))=false:=by rw[q39,a2B];simpa [Bool.or_assoc]using h
theorem c2z(a:UInt8):((a.toNat:Int) !=42)=(a !=42):=by simpa using a0b (p:=λa=>((a.toNat:Int) !=42)==(a !=42)) (by decide +kernel) a
theorem c3C(a:UInt8):((a.toNat:Int) !=35)=(a !=35):=by simpa using a0b (p:=λa=>((a.toNat:Int) !=35)==(a !=35)) (by decide +kernel) a
theorem b4U(a:UInt8)(t:B)(h:(decide ((a.toNat:Int)<32)||decide ((a.toNat:Int)>126)||(a==39))=false)(hs:(a !=42)=true):M4 (a::t)=((a.toNat:Int),1):=by unfold M4;rw[if_neg (by rw[b01 a t h];decide),if_pos (by rw[a2B,c2z];exact hs)];rfl
theorem b0G(t:B):M4 (42::t)=match t with
 | []=>(0,0)
 |b::u=>if decide (esc b>=0)then(chB a2N (esc b).toNat,2)else if(b !=35)||decide (u.length<2)then(0,0)else if !(a1A (u.take 2)).2 then(0,0)else((a1A (u.take 2)).1,4):=by
 unfold M4;rw[if_neg (by rw[b01 42 t (by decide)];decide),if_neg (by rw[a2B];decide)];cases t with
 |nil=>rfl
 |cons b u=>
  rw[if_neg (by simp;omega)];show(if decide (esc b>=0)=true then _ else if((chB (b::u) 0 !=35)||_)=true then _ else if(!(a1A (u.take 2)).2)=true then _ else _)=_;rw[a2B,c3C];have:decide (((42::b::u).length:Int)<4)=decide (u.length<2):=by
   congr 1
   simp;omega
  rw[this];rfl
theorem a4k{q:UInt8}{s:B}{v:Int}{n:Nat}(h:M4 s=(v,n)):a0T (q::s)=if noQ s n then a8x else(⟨4,0,[],v,⟩,n+2):=by unfold a0T;rw[show List.drop 1 (q::s)=s from rfl,h];rfl
theorem a2J{q:UInt8}{s:B}(h:M4 s=(0,0)):a0T (q::s)=a8x:=by rw[a4k h];rfl
theorem b7h(s:B)(n:Nat)(hn:n≠0):noQ s n=!(s[n]?==some 39):=by
 unfold noQ;rw[bne,q39];cases h:s[n]?==some 39 with
 |false=>simp
 |true=>
  have h1:n<s.length:=by
   rcases ze n s.length with h2|h2
   ·exact h2
   ·rw[qS h2]at h;cases h
  simp;omega
theorem b6r(q:UInt8)(s:B):a3r (q::s) =
 if !decide (2<=s.length)then a8x else if(X4 (s.take 1)).2&&(s[1]?==some 39)then(⟨4,0,[],(X4 (s.take 1)).1⟩,3)else
 if !decide (3<=s.length)then a8x else if(X4 (s.take 2)).2&&(s[2]?==some 39)then(⟨4,0,[],(X4 (s.take 2)).1⟩,4)else
 if !decide (4<=s.length)then a8x else if(X4 (s.take 3)).2&&(s[3]?==some 39)then(⟨4,0,[],(X4 (s.take 3)).1⟩,5)else
 if !decide (5<=s.length)then a8x else if(X4 (s.take 4)).2&&(s[4]?==some 39)then(⟨4,0,[],(X4 (s.take 4)).1⟩,6)else a8x:=by
 unfold a3r a6j a6j a6j a6j a6j c5n;simp only[show List.drop 1 (q::s)=s from rfl,show(3-2:Nat)=1 from rfl,show(4-2:Nat)=2 from rfl,show(5-2:Nat)=3 from rfl,show(6-2:Nat)=4 from rfl,c2k,q39];have e:∀n:Nat,decide (((n+1:Nat):Int)<=((q::s).length:Int))=decide (n<=s.length):=λn=>by congr 1;simp
 rw[show((3:Nat):Int)=((2+1:Nat):Int) from rfl,show((4:Nat):Int)=((3+1:Nat):Int) from rfl,show((5:Nat):Int)=((4+1:Nat):Int) from rfl,show((6:Nat):Int)=((5+1:Nat):Int) from rfl,e,e,e,e];rfl
theorem b4b(q:UInt8)(s:B):a3r (q::s) =
 if(X4 (s.take 1)).2&&(s[1]?==some 39)then(⟨4,0,[],(X4 (s.take 1)).1⟩,3)else
 if(X4 (s.take 2)).2&&(s[2]?==some 39)then(⟨4,0,[],(X4 (s.take 2)).1⟩,4)else
 if(X4 (s.take 3)).2&&(s[3]?==some 39)then(⟨4,0,[],(X4 (s.take 3)).1⟩,5)else
 if(X4 (s.take 4)).2&&(s[4]?==some 39)then(⟨4,0,[],(X4 (s.take 4)).1⟩,6)else a8x:=by
 rw[b6r];match s with
 | []=>simp
 | [a]=>simp
 | [a,b]=>simp
 | [a,b,c]=>simp
 | [a,b,c,d]=>simp
 |a::b::c::d::e::s=>simp
theorem b8F(q:UInt8)(s:B):a3r (q::s)=a0T (q::s):=by
 rw[b4b];match s with
 | []=>rfl
 |a::t=>
  cases hb:(decide ((a.toNat:Int)<32)||decide ((a.toNat:Int)>126)||(a==39))with
  |true=>
   have hs:(a==42)=false:=by
    cases hs:a==42 with
    |false=>rfl
    |true=>rw[eq_of_beq hs]at hb;revert hb;decide
   have e1:X4 [a]=(0,false):=by
    rw[b5o];have:(decide ((a.toNat:Int)>=32)&&decide ((a.toNat:Int)<=126)&&(a !=39)&&(a !=42))=false:=by
     simp only[qv,qw]at hb;rcases hb with(hb|hb)|hb
     ·rw[show decide ((a.toNat:Int)>=32)=false by simp;omega];rfl
     ·rw[show decide ((a.toNat:Int)<=126)=false by simp;omega,zB];rfl
     ·rw[bne,hb];simp
    rw[this];rfl
   rw[a2J (c04 a t hb)];match t with
   | []=>simp[e1]
   | [b]=>simp[e1,a1M,hs]
   | [b,c]=>simp[e1,a1M,T0,hs]
   |b::c::d::t=>simp[e1,a1M,T0,a2w,hs]
  |false=>
   cases hs:a !=42 with
   |true=>
    have hs':(a==42)=false:=by simpa [bne]using hs
    have e1:X4 [a]=((a.toNat:Int),true):=by
     rw[b5o];have:(decide ((a.toNat:Int)>=32)&&decide ((a.toNat:Int)<=126)&&(a !=39)&&(a !=42))=true:=by simp only[qA,decide_eq_false_iff_not]at hb;rw[hs,bne,hb.2];simp;omega
     rw[this];rfl
    rw[a4k (b4U a t hb hs),b7h _ _ (by decide)];match t with
    | []=>simp[e1]
    | [b]=>simp[e1,a1M,hs']
    | [b,c]=>simp[e1,a1M,T0,hs']
    |b::c::d::t=>simp[e1,a1M,T0,a2w,hs']
   |false=>
    have e:a=42:=by simpa using hs
    subst e;have e1:X4 [42]=(0,false):=by decide
    match t with
    | []=>rfl
    |b::u=>
     cases hE:decide (esc b>=0)with
     |true=>
      have hC:M4 (42::b::u)=(chB a2N (esc b).toNat,2):=by rw[b0G];simp only[hE,if_true]
      rw[a4k hC,b7h _ _ (by decide)];have h35:(b==35)=false:=by
       cases h:b==35 with
       |false=>rfl
       |true=>rw[eq_of_beq h]at hE;revert hE;decide
      have e2:X4 [42,b]=(chB a2N (esc b).toNat,true):=by rw[a1M,hE];rfl
      match u with
      | []=>simp[e1,e2]
      | [c]=>simp[e1,e2,T0]
      |c::d::u=>simp[e1,e2,T0,a2w,h35]
     |false=>
      have e2:X4 [42,b]=(0,false):=by rw[a1M,hE];rfl
      have hC:M4 (42::b::u)=if(b !=35)||decide (u.length<2)then(0,0)else if !(a1A (u.take 2)).2 then(0,0)else((a1A (u.take 2)).1,4):=by rw[b0G];simp only[hE,qp,if_false]
      match u with
      | []=>rw[a2J (hC.trans (by simp))];simp[e1,e2]
      | [c]=>rw[a2J (hC.trans (by simp))];simp[e1,e2,T0]
      |c::d::u=>
       cases h35:b==35 with
       |false=>rw[a2J (hC.trans (by simp[bne,h35]))];simp[e1,e2,T0,a2w,h35]
       |true=>
        have h35':(b !=35)=false:=by rw[bne,h35];rfl
        cases hx:(a1A [c,d]).2 with
        |false=>rw[a2J (hC.trans (by simp[h35',hx]))];simp[e1,e2,T0,a2w,h35,hx]
        |true=>rw[a4k (v:=(a1A [c,d]).1) (n:=4) (hC.trans (by simp[h35',hx])),b7h _ _ (by decide)];simp[e1,e2,T0,a2w,h35,hx]
def a3O(r:B):Tok×Nat:=
 if b6y (chB r 0)then
  (if c0e (r.take (1+run (r.drop 1)))then(⟨2,0,r.take (1+run (r.drop 1)),0⟩,1+run (r.drop 1))else if nameR (r.take (1+run (r.drop 1)))then(⟨1,0,r.take (1+run (r.drop 1)),0⟩,1+run (r.drop 1))else a8x)
 else if dig (chB r 0)then
  (if !(a2c (r.take (1+run (r.drop 1))) 10 10 2147483648).2 then a8x else(⟨3,0,[],IntKind.i32.wrap (a2c (r.take (1+run (r.drop 1))) 10 10 2147483648).1⟩,1+run (r.drop 1)))
 else if chB r 0==35 then
  (if !(a2c ((r.drop 1).take (run (r.drop 1))) 16 8 4294967296).2 then a8x else(⟨3,0,[],IntKind.i32.wrap (a2c ((r.drop 1).take (run (r.drop 1))) 16 8 4294967296).1⟩,1+run (r.drop 1)))
 else if chB r 0==39 then a3r r
 else if decide ((r.length:Int)>1)&&b02 (r.take 2)then(⟨5,0,r.take 2,0⟩,2)
 else if b02 (r.take 1)then(⟨5,0,r.take 1,0⟩,1)
 else a8x
theorem b4O:∀(l:B),run (l.take (run l))=run l
 | []=>rfl
 |c::l=>by
  have e:run (c::l)=if wch c then run l+1 else 0:=rfl
  cases hw:wch c with
  |false=>rw[e,hw];rfl
  |true=>rw[e,hw];simp only[if_true,List.take_succ_cons];show(if wch c then run (l.take (run l))+1 else 0)=_;rw[hw,b4O l];rfl
theorem a2f(l:B):(l.take (run l)).length=run l:=by rw[qV];have:=a4Q l;omega
theorem b8i{c:UInt8}(h:ltr c.toNat=true):wch c=true:=by unfold wch;rw[h];rfl
theorem b8u{c:UInt8}(h:dig c.toNat=true):wch c=true:=by unfold wch;rw[h];simp
theorem a5x{c:UInt8}{l:B}(h:wch c=true):run (c::l)=1+run l:=by show(if wch c then run l+1 else 0)=_;rw[h,Nat.add_comm];rfl
theorem c4k{v:Int}(h:0<=v):(v !=IntKind.i32.wrap v)=!decide (v<2147483648):=by
 by_cases hv:v<2147483648
 ·rw[a9U ⟨h,hv⟩];simp[hv]
 ·have:IntKind.i32.wrap v<2147483648:=by
   unfold IntKind.wrap;simp[IntKind.bits,IntKind.signed];omega
  simp[hv];omega
theorem b1Z{c:UInt8}{l:B}(h:ltr c.toNat=true)(hk:key ((c::l).take (run (c::l)))=false):name ((c::l).take (run (c::l)))=!decide ((run (c::l):Int)>32):=by
 have e1:=b4O (c::l);have e2:=a2f (c::l);have e3:(c::l).take (run (c::l))=c::l.take (run l):=by rw[a5x (b8i h),Nat.add_comm];rfl
 unfold name;rw[e1,e2,hk,e3];simp only[h];simp;rw[<-decide_not];congr 1
 simp
theorem c8f(c:UInt8)(r:B):tok (c::r)=a3O (c::r):=by
 unfold tok a3O;rw[a2B,show List.drop 1 (c::r)=r from rfl,<-b6M];cases hl:ltr c.toNat with
 |true=>
  simp only[if_true];rw[<-a5x (b8i hl),<-key_eq,<-name_eq];unfold a3C;cases hk:key ((c::r).take (run (c::r)))with
  |true=>rfl
  |false=>rw[b1Z hl hk];cases decide ((run (c::r):Int)>32)<;>rfl
 |false=>
  simp only[qp,if_false];cases hd:dig c.toNat with
  |true=>
   simp only[if_true];rw[<-a5x (b8u hd)];unfold b0o a2c;rw[a2f];have h1:decide ((run (c::r):Int)<1)=false:=by rw[a5x (b8u hd)];simp;omega
   rw[h1,zC];cases decide ((run (c::r):Int)>10)with
   |true=>rfl
   |false=>
    simp only[qp,if_false];rw[b3t];cases hv:a4i 10 ((c::r).take (run (c::r))) 0 with
    |none=>rfl
    |some v=>have hb:=a0I (by decide) b1D _ 0 v (by decide) hv;simp only;rw[c4k hb.1];cases decide (v<2147483648)<;>rfl
  |false=>
   simp only[qp,if_false];cases h35:(c.toNat:Int)==35 with
   |true=>
    simp only[if_true];unfold b1a;rw[show List.drop 1 (c::r)=r from rfl];by_cases h8:run r<=8
    ·rw[b4A (r.take (run r)) 8 (by rw[a2f];exact h8) 4294967296 (by decide)]
     rw[show decide ((run r:Int)>8)=false by simp;omega];rfl
    ·rw[show decide ((run r:Int)>8)=true by simp;omega]
     unfold a2c;rw[a2f];rw[show(decide ((run r:Int)<1)||decide ((run r:Int)>8))=true by simp;omega];rfl
   |false=>
    simp only[qp,if_false];cases h39:(c.toNat:Int)==39 with
    |true=>simp only[if_true];rw[b8F]
    |false=>simp only[qp,if_false];unfold a6X;rw[b2Z,b2Z];rw[show decide (2<=(c::r).length)=decide (((c::r).length:Int)>1) by congr 1;simp;omega,show decide (1<=(c::r).length)=true by simp];rfl
end
end Go.Lx
section
namespace Go.Xp
open Go.Eng Go
def a5t(e:Ex)(f:Bool)(n o t v:Int)(s:B):Bool:=(((((f&&((e.l.length:Int)==n))&&(e.o==o))&&(e.t==t))&&(e.n==v))&&(e.s==s))
def a3b(e:Ex):Bool:=(F1 e).2&&((e.l.length:Int)==(F1 e).1)
theorem d04{n:Int}(h:-2147483648<=n/\n<=2147483647):(a7i .i32 n 8=0)↔(0<=n/\n<=255):=by unfold a7i;rw[z1 _ (by decide)];simp[IntKind.bits];omega
theorem d0g{n:Int}(h:-2147483648<=n/\n<=2147483647):(a7i .i32 n 1=0)↔(0<=n/\n<=1):=by unfold a7i;rw[z1 _ (by decide)];simp[IntKind.bits];omega
theorem c0E{o:Int}(h:23<=o/\o<=255):IntKind.u8.wrap (o-23)=o-23:=by unfold IntKind.wrap;simp[IntKind.bits,IntKind.signed];omega
theorem c4H{e:Ex}(h:e.k=1):a3b e=a5t e true 0 0 0 e.n []:=by simp only[a3b,a5t,F1,fin,h];rw[qH];simp;constructor<;>(intro h;simp_all)
theorem c1u{e:Ex}(hn:-2147483648<=e.n/\e.n<=2147483647)(h:e.k=2):a3b e=a5t e (decide (e.n>=0)&&decide (e.n<=255)) 0 0 0 e.n []:=by
 have h8:=d04 hn;simp only[a3b,a5t,F1,fin,h];by_cases hb:a7i .i32 e.n 8=0
 ·have:=h8.1 hb
  rw[qH];simp[hb,this.1,this.2];constructor<;>(intro h;simp_all)
 ·have h9:¬(0<=e.n/\e.n<=255):=λq=>hb (h8.2 q)
  rw[qH];simp[hb];intros;omega
theorem c1v{e:Ex}(hn:-2147483648<=e.n/\e.n<=2147483647)(h:e.k=3):a3b e=a5t e ((e.n==0)||(e.n==1)) 0 0 0 e.n []:=by
 have h8:=d0g hn;simp only[a3b,a5t,F1,fin,h];by_cases hb:a7i .i32 e.n 1=0
 ·have:=h8.1 hb
  have h10:e.n=0\/e.n=1:=by omega
  rw[qH];simp[hb,h10];constructor<;>(intro h;simp_all)
 ·have h9:¬(0<=e.n/\e.n<=1):=λq=>hb (h8.2 q)
  have h10:¬(e.n=0\/e.n=1):=by omega
  rw[qH];simp[hb];intros;omega
theorem b5D{e:Ex}(h:e.k=4\/e.k=9):a3b e=a5t e (Go.Lx.nameR e.s) 0 0 0 0 e.s:=by
 rw[<-Go.Lx.name_eq];rcases h with h|h <;>
 ·simp only[a3b,a5t,F1,fin,h]
  cases Go.Lx.name e.s
  ·simp
  ·rw[qH]
   simp;constructor<;>(intro h;simp_all)
theorem b8U{e:Ex}(h:e.k=5):a3b e=a5t e (Go.Lx.nameR e.s) 1 0 0 0 e.s:=by
 rw[<-Go.Lx.name_eq];simp only[a3b,a5t,F1,fin,h];cases Go.Lx.name e.s
 ·simp
 ·rw[qH]
  simp;constructor<;>(intro h;simp_all)
theorem c4q{e:Ex}(ho:0<=e.o/\e.o<=255)(h:e.k=6):a3b e=a5t e (decide (e.o>=23)&&decide (e.o<=26)) 1 e.o 0 0 []:=by
 simp only[a3b,a5t,F1,fin,h];by_cases h1:e.o<23
 ·rw[qH]
  simp[h1];intros;omega
 ·have h2:=c0E (o:=e.o) (by omega)
  rw[h2,qH];by_cases h3:e.o<=26
  ·have h4:23<=e.o:=by omega
   have h5:¬4<=e.o-23:=by omega
   simp[h1,h3,h4,h5];constructor<;>(intro h;simp_all)
  ·have h5:4<=e.o-23:=by omega
   simp[h1,h3,h5]
theorem c4o{e:Ex}(h:e.k=7):a3b e=a5t e (decide (e.o>=1)&&decide (e.o<=22)) 2 e.o 0 0 []:=by
 simp only[a3b,a5t,F1,fin,h];by_cases h1:e.o<1
 ·rw[qH]
  simp[h1];intros;omega
 ·by_cases h3:e.o<=22
  ·have h4:1<=e.o:=by omega
   have h5:¬22<e.o:=by omega
   rw[qH];simp[h1,h3,h4,h5];constructor<;>(intro h;simp_all)
  ·have h5:22<e.o:=by omega
   rw[qH];simp[h1,h3,h5]
theorem c1U{e:Ex}(h:e.k=8):a3b e=a5t e (((e.t==1)||(e.t==2))||(e.t==3)) 1 0 e.t 0 []:=by
 simp only[a3b,a5t,F1,fin,h,L3];rw[qH];by_cases h1:e.t=1
 ·simp[h1]
  constructor<;>(intro h;simp_all)
 ·by_cases h2:e.t=2
  ·simp[h2]
   constructor<;>(intro h;simp_all)
  ·by_cases h3:e.t=3
   ·simp[h3]
    constructor<;>(intro h;simp_all)
   ·simp[h1,h2,h3]
theorem c3B{e:Ex}(h1:e.k≠1)(h2:e.k≠2)(h3:e.k≠3)(h4:e.k≠4)(h9:e.k≠9)(h5:e.k≠5)(h6:e.k≠6)(h7:e.k≠7)(h8:e.k≠8):a3b e=false:=by simp[a3b,F1,h1,h2,h3,h4,h5,h6,h7,h8,h9]
theorem b8E{e:Ex}{a b:Int}(ha:0<=a/\a<=32)(hb:0<=b):a5k (a+1) b e=((a==32)||(b==0)||!(a3b e)):=by
 unfold a5k a3b;have h1:decide (b-1<0)=(b==0):=by rw[qH];simp;omega
 have h2:decide (a+1>32)=(a==32):=by rw[qH];simp;omega
 rw[h1,h2];cases (F1 e).2<;>cases (a==32)<;>cases (b==0)<;>simp[bne]
end Go.Xp
namespace Go.Xp
open Go.Eng Go
open Go.Ty (Tok B1)
def D3(s:B):Tok:=⟨5,0,s,0⟩
def I2(s:B):Tok:=⟨2,0,s,0⟩
def E8(s:B):Tok:=⟨1,0,s,0⟩
def b6J(n:Int):Tok:=⟨3,0,[],n⟩
def a9T(n:Int):Tok:=⟨4,0,[],n⟩
def F7(s:B):Tok:=if Go.Lx.key s then I2 s else D3 s
def P8(o:Int):Tok:=F7 (a0g o).1
def par(k:Int):Bool:=(((k==6)||(k==7))||(k==8))||(k==9)
def a2a(p:Bool×Lt):Lt:=if p.1 then D3 [40]::(p.2++[D3 [41]])else p.2
def wr(k o t n:Int)(s:B)(ws:List (Bool×Lt)):Lt:=
 if k=1 then[b6J n]else if k=2 then[a9T n]else if k=3 then(if n=0 then[F7 [70,65,76,83,69]]else[F7 [84,82,85,69]])
 else if k=4 then[E8 s]else if k=9 then[F7 [83,73,90,69],E8 s]else if k=5 then E8 s::D3 [91]::((ws.getD 0 (false,[])).2++[D3 [93]])
 else if k=6 then P8 o::a2a (ws.getD 0 (false,[]))else if k=8 then F7 (L3 t)::a2a (ws.getD 0 (false,[]))
 else a2a (ws.getD 0 (false,[]))++P8 o::a2a (ws.getD 1 (false,[]))
mutual
def C3:Ex->Lt
 | .mk k o t n s _ _ l=>wr k o t n s (Y1 l)
def Y1:List Ex->List (Bool×Lt)
 | []=>[]
 |x::r=>(par x.k,C3 x)::Y1 r
end
def I9(e:Ex):Lt:=a2a (par e.k,C3 e)
theorem a4g(e:Ex):C3 e=wr e.k e.o e.t e.n e.s (Y1 e.l):=by cases e;rfl
inductive Fine:Ex->Prop
 |mk {e:Ex} (h1:(F1 e).2=true) (h2:(e.l.length:Int)=(F1 e).1) (h3:∀x∈e.l,Fine x):Fine e
theorem Fine.ok{e:Ex}(g:Fine e):(F1 e).2=true:=by cases g;assumption
theorem Fine.num{e:Ex}(g:Fine e):(e.l.length:Int)=(F1 e).1:=by cases g;assumption
theorem Fine.part{e x:Ex}(g:Fine e)(hx:x∈e.l):Fine x:=by cases g with|mk h1 h2 h3=>exact h3 x hx
theorem b6o(e:Ex):∀(deep left q:Int),J4 deep left e=some q->Fine e/\(a6k e:Int)=left-q:=by
 refine Ex.ind (p:=λe=>∀(deep left q:Int),J4 deep left e=some q->Fine e/\(a6k e:Int)=left-q) (λe ih deep left q hq=>?_) e;rw[a2p]at hq;split at hq
 ·cases hq
 ·rename_i hh
  have hb:=a8O (by simpa using hh);have key:∀(l:List Ex),(∀x∈l,x∈e.l)->∀z,a0D (deep+1) z l=some q->(∀x∈l,Fine x)/\(a4N l:Int)=z-q:=by
   intro l;induction l with
   |nil=>intro _ z h;cases h;exact⟨λx hx=>(qn hx).elim,by simp[a4N]⟩
   |cons x r ihr=>
    intro hm z h;unfold a0D at h;split at h
    ·rename_i p hp
     have h1:=ih x (hm x (by simp)) _ _ _ hp;have h2:=ihr (λy hy=>hm y (by simp[hy])) p h;refine⟨λy hy=>?_,by unfold a4N;omega⟩;rcases qQ.1 hy with rfl|hy
     ·exact h1.1
     ·exact h2.1 y hy
    ·cases h
  have hk:=key e.l (λ_ h=>h) (left-1) hq;have hc:=a0y e;exact⟨.mk hb.1.1 hb.2.2 hk.1,by omega⟩
theorem b3H{e:Ex}(h:K0 e=true):Fine e/\a6k e<=256:=by obtain⟨q,hq⟩:=z6.1 h;have h1:=b6o e 1 256 q hq;have h2:=a3J e 1 256 q (by decide) hq;exact⟨h1.1,by omega⟩
theorem b1K{e:Ex}(g:Fine e):e.k=1\/e.k=2\/e.k=3\/e.k=4\/e.k=9\/e.k=5\/e.k=6\/e.k=7\/e.k=8:=by
 have h:=g.ok;unfold F1 at h;by_cases h1:e.k=1
 ·simp[h1]
 by_cases h2:e.k=2
 ·simp[h2]
 by_cases h3:e.k=3
 ·simp[h3]
 by_cases h4:e.k=4
 ·simp[h4]
 by_cases h9:e.k=9
 ·simp[h9]
 by_cases h5:e.k=5
 ·simp[h5]
 by_cases h6:e.k=6
 ·simp[h6]
 by_cases h7:e.k=7
 ·simp[h7]
 by_cases h8:e.k=8
 ·simp[h8]
 simp[h1,h2,h3,h4,h5,h6,h7,h8,h9]at h
theorem a3L{e:Ex}(g:Fine e)(h:e.k=5\/e.k=6\/e.k=8):∃x,e.l=[x]:=by
 have h1:=g.ok;have h2:=g.num;have:(F1 e).1=1:=by unfold F1 at h1⊢;rcases h with h|h|h<;>simp only[h]at h1⊢ <;> (revert h1;simp)<;>split<;>simp
 rw[this]at h2;match hl:e.l with
 | [x]=>exact⟨x,rfl⟩
 | []=>rw[hl]at h2;simp at h2
 |_::_::_=>rw[hl]at h2;simp at h2;omega
theorem b1I{e:Ex}(g:Fine e)(h:e.k=7):∃x y,e.l=[x,y]:=by
 have h1:=g.ok;have h2:=g.num;have:(F1 e).1=2:=by
  unfold F1 at h1⊢;simp only[h]at h1⊢;revert h1
  simp;split<;>simp
 rw[this]at h2;match hl:e.l with
 | [x,y]=>exact⟨x,y,rfl⟩
 | []=>rw[hl]at h2;simp at h2
 | [_]=>rw[hl]at h2;simp at h2
 |_::_::_::_=>rw[hl]at h2;simp at h2;omega
theorem a3Z(p:Bool×Lt):(a2a p).length<=p.2.length+2:=by unfold a2a;split<;>simp
theorem a5Z(e:Ex)(g:Fine e):(C3 e).length<=5*a6k e-2:=by
 revert g
 refine Ex.ind (p:=λe=>Fine e->(C3 e).length<=5*a6k e-2) (λe ih g=>?_) e;rw[a4g];have hc:=a0y e;rcases b1K g with h|h|h|h|h|h|h|h|h
 ·simp[wr,h];omega
 ·simp[wr,h];omega
 ·simp only[wr,h]
  simp;split<;>simp<;>omega
 ·simp[wr,h];omega
 ·simp[wr,h];omega
 ·obtain⟨x,hx⟩:=a3L g (.inl h)
  have:=ih x (by simp[hx]) (g.part (by simp[hx]));have hcx:=a0y x;rw[hx]at hc;simp[a4N]at hc;simp[wr,h,hx,Y1];omega
 ·obtain⟨x,hx⟩:=a3L g (.inr (.inl h))
  have:=ih x (by simp[hx]) (g.part (by simp[hx]));have h2:=a3Z (par x.k,C3 x);have hcx:=a0y x;rw[hx]at hc;simp[a4N]at hc;simp[wr,h,hx,Y1]at h2⊢;omega
 ·obtain⟨x,y,hx⟩:=b1I g h
  have h1:=ih x (by simp[hx]) (g.part (by simp[hx]));have h2:=ih y (by simp[hx]) (g.part (by simp[hx]));have h3:=a3Z (par x.k,C3 x);have h4:=a3Z (par y.k,C3 y);have hcx:=a0y x;have hcy:=a0y y;rw[hx]at hc;simp[a4N]at hc;simp[wr,h,hx,Y1]at h3 h4⊢;omega
 ·obtain⟨x,hx⟩:=a3L g (.inr (.inr h))
  have:=ih x (by simp[hx]) (g.part (by simp[hx]));have h2:=a3Z (par x.k,C3 x);have hcx:=a0y x;rw[hx]at hc;simp[a4N]at hc;simp[wr,h,hx,Y1]at h2⊢;omega
end Go.Xp
namespace Go.Xp
open Go.Eng Go
open Go.Ty (Tok B1)
open Go.Lx (mayK)
instance:DecidableEq Tok:=λt u=>decidable_of_iff (Go.Ty.eqK t u=true) (Go.Ty.eqK_iff t u)
def zeroT:Tok:=⟨0,0,[],0⟩
def C1:Lt->Tok
 | []=>zeroT
 |t::_=>if mayK t then { t with at_:=0 }else zeroT
abbrev a0E:=Except Int (Ex×Lt)
def sx(k o t n:Int)(s:B)(l:List Ex):Ex:=.mk k o t n s none 0 l
mutual
def B5:Ex->Ex
 | .mk k o t n s _ _ l=>.mk k o t n s none 0 (b3n l)
def b3n:List Ex->List Ex
 | []=>[]
 |x::r=>B5 x::b3n r
end
def opF(t:Tok):Nat->Nat->Nat
 |0,_=>0
 |n+1,o=>if t=P8 o then o else opF t n (o+1)
def O1(t:Tok):Nat:=if t=F7 (L3 1)then 1 else if t=F7 (L3 2)then 2 else if t=F7 (L3 3)then 3 else 0
def R0(ins:B->B->Lt->a0E)(ts:Lt):a0E:=
 let t:=C1 ts
 if t.kind=3 then .ok (sx 1 0 0 t.n [] [],ts.tail)else if t.kind=4 then .ok (sx 2 0 0 t.n [] [],ts.tail)
 else if t=F7 [70,65,76,83,69]then .ok (sx 3 0 0 0 [] [],ts.tail)else if t=F7 [84,82,85,69]then .ok (sx 3 0 0 1 [] [],ts.tail)
 else if t.kind=1 then(if C1 ts.tail=D3 [91]then(match ins [91] [93] ts.tail with
  | .ok (x,r)=>.ok (sx 5 0 0 0 t.text [x],r)
  | .error e=>.error e)else .ok (sx 4 0 0 0 t.text [],ts.tail))
 else if t=D3 [40]then ins [40] [41] ts else .error 100
def unQ(mk:Ex->Ex)(p:a0E):a0E:=match p with
 | .ok (x,r)=>.ok (mk x,r)
 | .error e=>.error e
def a1H(ins:B->B->Lt->a0E)(ts:Lt):a0E:=
 let t:=C1 ts
 if t=F7 [83,73,90,69]then(if(C1 ts.tail).kind=1 then .ok (sx 9 0 0 0 (C1 ts.tail).text [],ts.tail.tail)else .error 100)
 else if O1 t≠0 then unQ (λx=>sx 8 0 (O1 t) 0 [] [x]) (R0 ins ts.tail)
 else if opF t 4 23≠0 then unQ (λx=>sx 6 (opF t 4 23) 0 0 [] [x]) (R0 ins ts.tail)
 else match R0 ins ts with
  | .error e=>.error e
  | .ok (a,r)=>if opF (C1 r) 22 1≠0 then unQ (λb=>sx 7 (opF (C1 r) 22 1) 0 0 [] [a,b]) (R0 ins r.tail)else .ok (a,r)
def T9:Nat->B->B->Lt->a0E
 |0,_,_,_=>.error 3
 |f+1,o,s,ts=>if C1 ts=D3 o then(match a1H (T9 f) ts.tail with
  | .error e=>.error e
  | .ok (x,r)=>if C1 r=D3 s then .ok (x,r.tail)else .error 100)else .error 100
def b0u(ts:Lt):a0E:=a1H (T9 32) ts
def Q2(ts:Lt):Except Int (Ex×Nat):=match b0u ts with
 | .error e=>.error e
 | .ok (x,r)=>if K0 x then .ok (x,ts.length-r.length)else .error 3
theorem a1z(t:Tok)(r:Lt):C1 (t::r)=if mayK t then { t with at_:=0 }else zeroT:=rfl
theorem b9B{ts:Lt}(h:(C1 ts).kind≠0):ts≠[]:=by rintro rfl;exact h rfl
theorem b9e(l:List Ex):b3n l=l.map B5:=by
 induction l with
 |nil=>rfl
 |cons x r ih=>rw[b3n,ih];rfl
theorem c6d(e:Ex):(B5 e).k=e.k:=by cases e;rfl
theorem a1v(s:B):(F7 s).kind=2\/(F7 s).kind=5:=by
 unfold F7;split
 ·exact .inl rfl
 ·exact .inr rfl
theorem c4N{k:Nat}{l:Lt}(h:l.drop k≠[]):k<l.length:=by
 rcases ze k l.length with h1|h1
 ·exact h1
 ·exact absurd (qb h1) h
theorem a4S{t:Tok}:∀{n o:Nat},opF t n o≠0->t.kind≠0
 |0,_,h=>absurd rfl h
 |n+1,o,h=>by
  unfold opF at h;split at h
  ·rename_i q
   rw[q];unfold P8;rcases a1v (a0g o).1 with h|h<;>rw[h]<;>decide
  ·exact a4S h
theorem a9w(t:Tok):∀(n o:Nat),opF t n o≠0->o<=opF t n o/\opF t n o<o+n
 |0,_,h=>absurd rfl h
 |n+1,o,h=>by
  unfold opF at h⊢;split at h
  ·rename_i q
   rw[if_pos q];omega
  ·rename_i q
   rw[if_neg q];have:=a9w t n (o+1) h;omega
end Go.Xp
namespace Go.Xp
open Go.Eng Go
open Go.Ty (Tok B1)
theorem a06(e:Ex):B5 e=.mk e.k e.o e.t e.n e.s none 0 (e.l.map B5):=by
 cases e with
 |mk k o t n s a c l=>rw[B5,b9e];rfl
theorem b4s(e:Ex):F1 (B5 e)=F1 e:=by rw[a06];rfl
theorem c09(e:Ex):(B5 e).l.length=e.l.length:=by rw[a06];exact qP _
theorem b5J(deep left:Int)(e:Ex):a5k deep left (B5 e)=a5k deep left e:=by unfold a5k;rw[b4s,c09]
theorem b7N(e:Ex):(B5 e).l=e.l.map B5:=by rw[a06];rfl
theorem b3N(e:Ex):∀(deep left:Int),J4 deep left (B5 e)=J4 deep left e:=by
 refine Ex.ind (p:=λe=>∀(deep left:Int),J4 deep left (B5 e)=J4 deep left e) (λe ih deep left=>?_) e;rw[a2p,a2p,b5J,b7N];have key:∀(l:List Ex),(∀x∈l,x∈e.l)->∀z,a0D (deep+1) z (l.map B5)=a0D (deep+1) z l:=by
  intro l;induction l with
  |nil=>intro _ z;rfl
  |cons x r ihr=>
   intro hm z;rw[zo];unfold a0D;rw[ih x (hm x (by simp))];split
   ·exact ihr (λy hy=>hm y (by simp[hy])) _
   ·rfl
 rw[key e.l λ_ h=>h]
theorem S5(e:Ex):K0 (B5 e)=K0 e:=by unfold K0;rw[b3N]
theorem b4P(e:Ex):C3 (B5 e)=C3 e:=by
 refine Ex.ind (p:=λe=>C3 (B5 e)=C3 e) (λe ih=>?_) e;rw[a4g,a4g,b7N,a06];have key:∀(l:List Ex),(∀x∈l,x∈e.l)->Y1 (l.map B5)=Y1 l:=by
  intro l;induction l with
  |nil=>intro _;rfl
  |cons x r ihr=>intro hm;rw[zo];unfold Y1;rw[ih x (hm x (by simp)),c6d,ihr λy hy=>hm y (by simp[hy])]
 rw[key e.l λ_ h=>h];rfl
theorem a01(x:Ex):∀y:Ex,(F5 x y=true↔B5 x=B5 y):=by
 refine Ex.ind (p:=λx=>∀y:Ex,(F5 x y=true↔B5 x=B5 y)) (λx ih y=>?_) x;have key:∀(l q:List Ex),(∀x'∈l,x'∈x.l)->l.length=q.length->(a1Q l q=true↔l.map B5=q.map B5):=by
  intro l;induction l with
  |nil=>
   intro q _ hl;match q with
   | []=>simp[a1Q]
   |_::_=>simp at hl
  |cons u r ihr=>
   intro q hm hl;match q with
   | []=>simp at hl
   |v::w=>have h1:=ih u (hm u (by simp)) v;have h2:=ihr w (λz hz=>hm z (by simp[hz])) (by simpa using hl);unfold a1Q;rw[qa,h1,h2,zo,zo,List.cons.injEq]
 rw[b0l,a06 x,a06 y];constructor
 ·intro h
  rw[qa]at h;obtain⟨hb,hl⟩:=h;unfold b0O at hb;simp only[qK,qA,bne_eq_false_iff_eq]at hb;obtain⟨⟨⟨⟨⟨h1,h2⟩,h3⟩,h4⟩,h5⟩,h6⟩:=hb;have h7:=(key x.l y.l (λ_ h=>h) (by omega)).1 hl;rw[h1,h2,h3,h4,h5,h7]
 ·intro h
  injection h with h1 h2 h3 h4 h5 h6 h7 h8
  have h9:x.l.length=y.l.length:=by simpa using congrArg List.length h8
  have h10:=(key x.l y.l (λ_ h=>h) h9).2 h8;rw[h10];unfold b0O;rw[h1,h2,h3,h4,h5,h9];simp
def A0:Ex:=.mk 0 0 0 0 [] none 0 []
def a2X(ts:Lt):Ex:=match Q2 ts with
 | .ok (x,_)=>x
 | .error _=>A0
def R1(ts:Lt):Nat:=match Q2 ts with
 | .ok (_,k)=>k
 | .error _=>0
def a05(ts:Lt):Int:=match Q2 ts with
 | .ok _=>0
 | .error e=>e
def G3(e:Ex):Lt:=if K0 e then C3 e else[]
def b3r(e:Ex):Int:=if K0 e then 0 else 2
theorem a0c(e:Ex):G3 (B5 e)=G3 e:=by unfold G3;rw[S5,b4P]
end Go.Xp
end
section
namespace Go.Pc
open Go.Eng Go.Xp Go
open Go.Ty (Ty Vr E9 encV PrOk)
open Go.Lx (encB)
abbrev B:=List UInt8
structure Sli(α:Type) where
 a:Oa
 c:Nat
 l:List α
def Sli.v{α:Type}(s:Sli α):Value:=.slice s.a s.l.length s.c
def A2{α:Type}:Sli α:=⟨none,0,[]⟩
structure Rp where
 name:B
 base:Ex
 count:Ex
structure Fo where
 val:Bool
 ty:Ty
 name:B
mutual
inductive Pr where
 |mk (k:Int) (name:B) (ch:Ex) (tg ex:Sli Ex) (rep:Rp) (ga:Oa) (gc:Nat) (gl:List Gu) (la:Oa) (lc:Nat) (ll:List Pr) (pn:Sli Int) (sp:Sp)
inductive Gu where
 |mk (k:Int) (name:B) (cond ch:Ex) (tg vl:Sli Ex) (time:Ex) (ba:Oa) (bc:Nat) (bl:List Pr)
inductive Sp where
 |mk (k:Int) (ty:Ty) (names:Sli B) (e:Ex) (cs:Bool) (vs:Sli Vr) (fs:Sli Fo) (ba:Oa) (bc:Nat) (bl:List Pr)
end
namespace Sp
def k:Sp->Int|mk k _ _ _ _ _ _ _ _ _=>k
def ty:Sp->Ty|mk _ t _ _ _ _ _ _ _ _=>t
def names:Sp->Sli B|mk _ _ n _ _ _ _ _ _ _=>n
def e:Sp->Ex|mk _ _ _ e _ _ _ _ _ _=>e
def cs:Sp->Bool|mk _ _ _ _ c _ _ _ _ _=>c
def vs:Sp->Sli Vr|mk _ _ _ _ _ v _ _ _ _=>v
def fs:Sp->Sli Fo|mk _ _ _ _ _ _ f _ _ _=>f
def ba:Sp->Oa|mk _ _ _ _ _ _ _ a _ _=>a
def bc:Sp->Nat|mk _ _ _ _ _ _ _ _ c _=>c
def bl:Sp->List Pr|mk _ _ _ _ _ _ _ _ _ l=>l
end Sp
namespace Gu
def k:Gu->Int|mk k _ _ _ _ _ _ _ _ _=>k
def name:Gu->B|mk _ n _ _ _ _ _ _ _ _=>n
def cond:Gu->Ex|mk _ _ e _ _ _ _ _ _ _=>e
def ch:Gu->Ex|mk _ _ _ e _ _ _ _ _ _=>e
def tg:Gu->Sli Ex|mk _ _ _ _ t _ _ _ _ _=>t
def vl:Gu->Sli Ex|mk _ _ _ _ _ v _ _ _ _=>v
def time:Gu->Ex|mk _ _ _ _ _ _ e _ _ _=>e
def ba:Gu->Oa|mk _ _ _ _ _ _ _ a _ _=>a
def bc:Gu->Nat|mk _ _ _ _ _ _ _ _ c _=>c
def bl:Gu->List Pr|mk _ _ _ _ _ _ _ _ _ l=>l
end Gu
namespace Pr
def k:Pr->Int|mk k _ _ _ _ _ _ _ _ _ _ _ _ _=>k
def name:Pr->B|mk _ n _ _ _ _ _ _ _ _ _ _ _ _=>n
def ch:Pr->Ex|mk _ _ e _ _ _ _ _ _ _ _ _ _ _=>e
def tg:Pr->Sli Ex|mk _ _ _ t _ _ _ _ _ _ _ _ _ _=>t
def ex:Pr->Sli Ex|mk _ _ _ _ e _ _ _ _ _ _ _ _ _=>e
def rep:Pr->Rp|mk _ _ _ _ _ r _ _ _ _ _ _ _ _=>r
def ga:Pr->Oa|mk _ _ _ _ _ _ a _ _ _ _ _ _ _=>a
def gc:Pr->Nat|mk _ _ _ _ _ _ _ c _ _ _ _ _ _=>c
def gl:Pr->List Gu|mk _ _ _ _ _ _ _ _ l _ _ _ _ _=>l
def la:Pr->Oa|mk _ _ _ _ _ _ _ _ _ a _ _ _ _=>a
def lc:Pr->Nat|mk _ _ _ _ _ _ _ _ _ _ c _ _ _=>c
def ll:Pr->List Pr|mk _ _ _ _ _ _ _ _ _ _ _ l _ _=>l
def pn:Pr->Sli Int|mk _ _ _ _ _ _ _ _ _ _ _ _ p _=>p
def sp:Pr->Sp|mk _ _ _ _ _ _ _ _ _ _ _ _ _ s=>s
end Pr
def a1x(n:Int):Lv:=[.int .i64 n]
theorem a9G(n:Int):(a1x n).length=1:=rfl
@[reducible,instance]def iencN_len:=Go.Eng.Ln.mk a9G (by decide)
def foE(f:Fo):Lv:=[.bool f.val,.int .u8 f.ty.kind,.int .i64 f.ty.dim,.int .u8 f.ty.item,str f.ty.proto,str f.name]
theorem a4F(f:Fo):(foE f).length=6:=rfl
@[reducible,instance]def ifoE_len:=Go.Eng.Ln.mk a4F (by decide)
def rpE(r:Rp):Lv:=[str r.name,.int .u8 r.base.k,.int .u8 r.base.o,.int .u8 r.base.t,.int .i32 r.base.n,str r.base.s,.slice r.base.a r.base.l.length r.base.c,
 .int .u8 r.count.k,.int .u8 r.count.o,.int .u8 r.count.t,.int .i32 r.count.n,str r.count.s,.slice r.count.a r.count.l.length r.count.c]
def spE(s:Sp):Lv:=[.int .u8 s.k,.int .u8 s.ty.kind,.int .i64 s.ty.dim,.int .u8 s.ty.item,str s.ty.proto,.slice s.names.a s.names.l.length s.names.c,
 .int .u8 s.e.k,.int .u8 s.e.o,.int .u8 s.e.t,.int .i32 s.e.n,str s.e.s,.slice s.e.a s.e.l.length s.e.c,.bool s.cs,.slice s.vs.a s.vs.l.length s.vs.c,.slice s.fs.a s.fs.l.length s.fs.c,.slice s.ba s.bl.length s.bc]
def guE(g:Gu):Lv:=[.int .u8 g.k,str g.name,.int .u8 g.cond.k,.int .u8 g.cond.o,.int .u8 g.cond.t,.int .i32 g.cond.n,str g.cond.s,.slice g.cond.a g.cond.l.length g.cond.c,
 .int .u8 g.ch.k,.int .u8 g.ch.o,.int .u8 g.ch.t,.int .i32 g.ch.n,str g.ch.s,.slice g.ch.a g.ch.l.length g.ch.c,.slice g.tg.a g.tg.l.length g.tg.c,.slice g.vl.a g.vl.l.length g.vl.c,
 .int .u8 g.time.k,.int .u8 g.time.o,.int .u8 g.time.t,.int .i32 g.time.n,str g.time.s,.slice g.time.a g.time.l.length g.time.c,.slice g.ba g.bl.length g.bc]
theorem a6T(g:Gu):(guE g).length=23:=rfl
@[reducible,instance]def iguE_len:=Go.Eng.Ln.mk a6T (by decide)
def prE(p:Pr):Lv:=[.int .u8 p.k,str p.name,.int .u8 p.ch.k,.int .u8 p.ch.o,.int .u8 p.ch.t,.int .i32 p.ch.n,str p.ch.s,.slice p.ch.a p.ch.l.length p.ch.c,
 .slice p.tg.a p.tg.l.length p.tg.c,.slice p.ex.a p.ex.l.length p.ex.c,
 str p.rep.name,.int .u8 p.rep.base.k,.int .u8 p.rep.base.o,.int .u8 p.rep.base.t,.int .i32 p.rep.base.n,str p.rep.base.s,.slice p.rep.base.a p.rep.base.l.length p.rep.base.c,
 .int .u8 p.rep.count.k,.int .u8 p.rep.count.o,.int .u8 p.rep.count.t,.int .i32 p.rep.count.n,str p.rep.count.s,.slice p.rep.count.a p.rep.count.l.length p.rep.count.c,
 .slice p.ga p.gl.length p.gc,.slice p.la p.ll.length p.lc,.slice p.pn.a p.pn.l.length p.pn.c,
 .int .u8 p.sp.k,.int .u8 p.sp.ty.kind,.int .i64 p.sp.ty.dim,.int .u8 p.sp.ty.item,str p.sp.ty.proto,.slice p.sp.names.a p.sp.names.l.length p.sp.names.c,
 .int .u8 p.sp.e.k,.int .u8 p.sp.e.o,.int .u8 p.sp.e.t,.int .i32 p.sp.e.n,str p.sp.e.s,.slice p.sp.e.a p.sp.e.l.length p.sp.e.c,.bool p.sp.cs,.slice p.sp.vs.a p.sp.vs.l.length p.sp.vs.c,.slice p.sp.fs.a p.sp.fs.l.length p.sp.fs.c,.slice p.sp.ba p.sp.bl.length p.sp.bc]
theorem a1E(p:Pr):(prE p).length=42:=rfl
@[reducible,instance]def iprE_len:=Go.Eng.Ln.mk a1E (by decide)
def foV(f:Fo):Value:=.agg (foE f).toArray
def rpV(r:Rp):Value:=.agg (rpE r).toArray
def spV(s:Sp):Value:=.agg (spE s).toArray
def guV(g:Gu):Value:=.agg (guE g).toArray
def prV(p:Pr):Value:=.agg (prE p).toArray
mutual
def W9:Pr->Nat
 | .mk _ _ _ _ _ _ _ _ gl _ _ ll _ sp=>1+(S2 ll+(b4m sp+a1V gl))
def S2:List Pr->Nat
 | []=>0
 |x::r=>W9 x+S2 r
def b6z:Gu->Nat
 | .mk _ _ _ _ _ _ _ _ _ bl=>S2 bl
def a1V:List Gu->Nat
 | []=>0
 |x::r=>b6z x+a1V r
def b4m:Sp->Nat
 | .mk _ _ _ _ _ _ _ _ _ bl=>S2 bl
end
theorem a8J(p:Pr):W9 p=1+(S2 p.ll+(b4m p.sp+a1V p.gl)):=by cases p;rfl
theorem a8M(s:Sp):b4m s=S2 s.bl:=by cases s;rfl
theorem b2B(g:Gu):b6z g=S2 g.bl:=by cases g;rfl
theorem a5Q:∀{l:List Pr}{x:Pr},x∈l->W9 x<=S2 l
 |y::r,x,h=>by
  unfold S2;rcases qQ.1 h with rfl|h
  ·omega
  ·have:=a5Q h
   omega
theorem b1E:∀{l:List Gu}{x:Gu},x∈l->b6z x<=a1V l
 |y::r,x,h=>by
  unfold a1V;rcases qQ.1 h with rfl|h
  ·omega
  ·have:=b1E h
   omega
theorem a7h(p:Pr):1<=W9 p:=by rw[a8J];omega
inductive In:Pr->Pr->Prop
 |l {x p:Pr} (h:x∈p.ll):In x p
 |s {x p:Pr} (h:x∈p.sp.bl):In x p
 |g {x p:Pr} {g:Gu} (hg:g∈p.gl) (h:x∈g.bl):In x p
theorem In.lt{x p:Pr}(h:In x p):W9 x<W9 p:=by
 rw[a8J p];cases h with
 |l h=>have:=a5Q h;omega
 |s h=>have:=a5Q h;rw[<-a8M]at this;omega
 |g hg h=>have h1:=a5Q h;have h2:=b1E hg;rw[<-b2B]at h1;omega
theorem Pr.ind{q:Pr->Prop}(h:∀p,(∀x,In x p->q x)->q p)(p:Pr):q p:=by
 have key:∀n p,W9 p<=n->q p:=by
  intro n;induction n with
  |zero=>intro p hp;have:=a7h p;omega
  |succ n ih=>intro p hp;exact h p λx hx=>ih x (by have:=hx.lt;omega)
 exact key (W9 p) p (qz _)
structure EOk(m:View)(h:Lr)(e:Ex):Prop where
 t:TOk m h e
 w:Wf e
theorem EOk.mono{m:View}{h h':Lr}{e:Ex}(q:EOk m h e)(s:h.Sublist h'):EOk m h' e:=⟨q.t.mono s,q.w⟩
structure LOk(m:View)(h:Lr)(s:Sli Ex):Prop where
 rd:Rd m h s.a s.l.length s.c 6 (fl exE s.l)
 ok:∀x∈s.l,EOk m h x
theorem LOk.mono{m:View}{h h':Lr}{s:Sli Ex}(q:LOk m h s)(r:h.Sublist h'):LOk m h' s:=⟨q.rd.mono Vl r,λx hx=>(q.ok x hx).mono r⟩
abbrev Big:Nat:=140737488355328
structure TyW(t:Ty):Prop where
 k:0<=t.kind/\t.kind<=255
 i:0<=t.item/\t.item<=255
 d:-9223372036854775808<=t.dim/\t.dim<=9223372036854775807
 p:t.proto.length<=Big
structure FoW(f:Fo):Prop where
 t:TyW f.ty
 n:f.name.length<=Big
structure SOk(m:View)(h:Lr)(s:Sp):Prop where
 k:0<=s.k/\s.k<=255
 ty:TyW s.ty
 nr:Rd m h s.names.a s.names.l.length s.names.c 1 (fl encB s.names.l)
 nw:∀x∈s.names.l,x.length<=Big
 e:EOk m h s.e
 v:PrOk m h s.vs.a s.vs.l.length s.vs.c s.vs.l
 vw:∀x∈s.vs.l,x.items.length=x.n
 fr:Rd m h s.fs.a s.fs.l.length s.fs.c 6 (fl foE s.fs.l)
 fw:∀x∈s.fs.l,FoW x
 b:Rd m h s.ba s.bl.length s.bc 42 (fl prE s.bl)
structure GOk(m:View)(h:Lr)(g:Gu):Prop where
 k:0<=g.k/\g.k<=255
 n:g.name.length<=Big
 cond:EOk m h g.cond
 ch:EOk m h g.ch
 tg:LOk m h g.tg
 vl:LOk m h g.vl
 time:EOk m h g.time
 b:Rd m h g.ba g.bl.length g.bc 42 (fl prE g.bl)
structure P1(m:View)(h:Lr)(p:Pr):Prop where
 k:0<=p.k/\p.k<=255
 n:p.name.length<=Big
 ch:EOk m h p.ch
 tg:LOk m h p.tg
 ex:LOk m h p.ex
 rn:p.rep.name.length<=Big
 rb:EOk m h p.rep.base
 rc:EOk m h p.rep.count
 g:Rd m h p.ga p.gl.length p.gc 23 (fl guE p.gl)
 gs:∀x∈p.gl,GOk m h x
 l:Rd m h p.la p.ll.length p.lc 42 (fl prE p.ll)
 pn:Rd m h p.pn.a p.pn.l.length p.pn.c 1 (fl a1x p.pn.l)
 pw:∀x∈p.pn.l,-9223372036854775808<=x/\x<=9223372036854775807
 sp:SOk m h p.sp
inductive POk(m:View)(h:Lr):Pr->Prop
 |mk {p:Pr} (o:P1 m h p) (s:∀x,In x p->POk m h x):POk m h p
theorem POk.own{m:View}{h:Lr}{p:Pr}(q:POk m h p):P1 m h p:=by cases q;assumption
theorem POk.sub{m:View}{h:Lr}{p x:Pr}(q:POk m h p)(hx:In x p):POk m h x:=by cases q with|mk o s=>exact s x hx
theorem SOk.mono{m:View}{h h':Lr}{s:Sp}(q:SOk m h s)(r:h.Sublist h'):SOk m h' s:=
 ⟨q.k,q.ty,q.nr.mono Vl r,q.nw,q.e.mono r,q.v.mono Vl r,q.vw,q.fr.mono Vl r,q.fw,q.b.mono Vl r⟩
theorem GOk.mono{m:View}{h h':Lr}{g:Gu}(q:GOk m h g)(r:h.Sublist h'):GOk m h' g:=
 ⟨q.k,q.n,q.cond.mono r,q.ch.mono r,q.tg.mono r,q.vl.mono r,q.time.mono r,q.b.mono Vl r⟩
theorem P1.mono{m:View}{h h':Lr}{p:Pr}(q:P1 m h p)(r:h.Sublist h'):P1 m h' p:=
 ⟨q.k,q.n,q.ch.mono r,q.tg.mono r,q.ex.mono r,q.rn,q.rb.mono r,q.rc.mono r,q.g.mono Vl r,λx hx=>(q.gs x hx).mono r,q.l.mono Vl r,q.pn.mono Vl r,q.pw,q.sp.mono r⟩
theorem POk.mono{m:View}{h h':Lr}{p:Pr}(q:POk m h p)(r:h.Sublist h'):POk m h' p:=by
 induction q with
 |mk o _ ih=>exact .mk (o.mono r) ih
end Go.Pc
end
namespace Go.Pc
section
open Go.Eng Go.Xp Go
open Go.Ty (Ty Vr)
def a0P(e:Ex):Bool:=F5 e A0
def L5(e:Ex):Bool:=((e.k==4)||(e.k==5))&&K0 e
def a9L(a b:Int)(n:Int):Bool:=decide (n>=a)&&decide (n<=b)
def O2{α:Type}(l:List α)(a b:Int)(q:α->Bool):Bool:=a9L a b l.length&&!(l.any λx=>!q x)
structure Us where
 rep:Bool
 name:Bool
 chan:Bool
 spec:Bool
 procs:Bool
 t0:Int
 t1:Int
 e0:Int
 e1:Int
 p0:Int
 p1:Int
 g0:Int
 g1:Int
 lo:Int
 hi:Int
def usE(u:Us):Lv:=[.bool u.rep,.bool u.name,.bool u.chan,.bool u.spec,.bool u.procs,.int .i64 u.t0,.int .i64 u.t1,.int .i64 u.e0,.int .i64 u.e1,.int .i64 u.p0,.int .i64 u.p1,.int .i64 u.g0,.int .i64 u.g1,.int .u8 u.lo,.int .u8 u.hi]
def us0:Us:=⟨false,false,false,false,false,0,0,0,0,0,0,0,0,0,0⟩
def C4(k:Int):Us×Bool:=
 if k=1 then(us0,true)else if k=2 then(us0,true)
 else if k=3 then({ us0 with t0:=1,t1:=8,e0:=1,e1:=8 },true)
 else if k=4 then({ us0 with chan:=true,t0:=1,t1:=8 },true)
 else if k=5 then({ us0 with chan:=true,e0:=1,e1:=9 },true)
 else if k=6 then({ us0 with chan:=true,e0:=1,e1:=1 },true)
 else if k=7 then({ us0 with chan:=true,g0:=1,g1:=16,lo:=7,hi:=7 },true)
 else if k=8 then({ us0 with rep:=true,p0:=0,p1:=2048 },true)else if k=9 then({ us0 with rep:=true,p0:=0,p1:=2048 },true)
 else if k=10 then({ us0 with p0:=2,p1:=2 },true)
 else if k=11 then({ us0 with procs:=true,p0:=1,p1:=8 },true)
 else if k=12 then({ us0 with rep:=true,g0:=0,g1:=16,lo:=2,hi:=4 },true)else if k=13 then({ us0 with rep:=true,g0:=0,g1:=16,lo:=2,hi:=4 },true)
 else if k=14 then({ us0 with rep:=true,g0:=0,g1:=16,lo:=1,hi:=1 },true)
 else if k=15 then({ us0 with e0:=1,e1:=1,g0:=0,g1:=16,lo:=5,hi:=6 },true)
 else if k=16 then({ us0 with e0:=1,e1:=1,p0:=1,p1:=1 },true)
 else if k=17 then({ us0 with name:=true,e0:=0,e1:=8 },true)
 else if k=18 then({ us0 with spec:=true,p0:=1,p1:=1 },true)
 else(us0,false)
def N4(t:Ty):Bool:=Go.Ty.may t&&(t.dim==0)&&decide (t.kind<=3)
def a7n(r:Rp):Bool:=if r.name==[]then a0P r.base&&a0P r.count else Go.Lx.name r.name&&K0 r.base&&K0 r.count
def foP(f:Fo):Bool:=Go.Lx.name f.name&&Go.Ty.may f.ty&&(!f.val||N4 f.ty)
def a5C(u a z:Bool):Bool:=if u then a else z
def b06(g:Gu):Bool:=if(g.k==3)||(g.k==4)then K0 g.cond||a0P g.cond else K0 g.cond
def guP(g:Gu):Bool:=
 (g.k !=0)&&decide (g.k<=7)&&((g.bl.length:Int)==1) &&
 a5C ((g.k==1)||(g.k==2)||(g.k==3)||(g.k==4)) (b06 g) (a0P g.cond) &&
 a5C (g.k==7) (Go.Lx.name g.name) (g.name==[]) &&
 a5C ((g.k==3)||(g.k==4)) (L5 g.ch) (a0P g.ch) &&
 a5C (g.k==4) (K0 g.time) (a0P g.time) &&
 O2 g.tg.l (if g.k=3 then 1 else 0) (if g.k=3 then 8 else if g.k=7 then 8 else 0) L5&&O2 g.vl.l (if g.k=5 then 1 else 0) (if g.k=5 then 8 else 0) K0
def a0h(f g:Fo):Bool:=(f.val==g.val)&&(Go.Ty.eqT f.ty g.ty&&((f.name==g.name)&&true))
def N7(x y:Vr):Bool:=(x.tag==y.tag)&&(x.items==y.items)
def S8(a b:Sp):Bool:=((((((((a.k==b.k)&&Go.Ty.eqT a.ty b.ty)&&(a.names.l==b.names.l))&&F5 a.e b.e)&&(a.cs==b.cs))&&eqL N7 a.vs.l b.vs.l)&&eqL a0h a.fs.l b.fs.l)&&((a.bl.length:Int)==b.bl.length))
def a1O(s:Sp):Sp:=
 if s.k=1 then .mk s.k s.ty s.names A0 false A2 A2 none 0 []
 else if s.k=2 then .mk s.k s.ty s.names s.e false A2 A2 none 0 []
 else if s.k=3 then .mk s.k s.ty s.names s.e false A2 A2 none 0 []
 else if s.k=4 then .mk s.k Go.Ty.zeroT s.names A0 s.cs s.vs A2 none 0 []
 else .mk s.k Go.Ty.zeroT s.names A0 false A2 s.fs s.ba s.bc s.bl
def a1l(s:Sp):Bool:=
 if s.k=1 then Go.Ty.may s.ty
 else if s.k=2 then N4 s.ty&&K0 s.e
 else if s.k=3 then N4 s.ty&&L5 s.e
 else if s.k=4 then Go.Ty.mayPr s.cs s.vs.l
 else((s.bl.length:Int)==1)&&O2 s.fs.l 0 8 foP
def spP(s:Sp):Bool:=
 if 1<=s.k/\s.k<=5 then a1l s&&O2 s.names.l 1 (if s.k=1 then 8 else 1) Go.Lx.name&&S8 s (a1O s)else false
def B4:Sp:=.mk 0 Go.Ty.zeroT A2 A0 false A2 A2 none 0 []
def inG(u:Us)(g:Gu):Bool:=decide (g.k>=u.lo)&&decide (g.k<=u.hi)&&guP g
def c2P(u:Us):Bool:=(u.p0==0)&&(u.p1==2048)
def c0u(u:Us):Us:=if c2P u then { u with p0:=1,p1:=1 }else { u with g0:=1,g1:=1 }
def a0k(p:Pr)(u:Us):Bool:=
 a9L u.p0 u.p1 p.ll.length&&O2 p.gl u.g0 u.g1 (inG u) &&
 a5C u.name (Go.Lx.name p.name) (p.name==[]) &&
 a5C u.chan (L5 p.ch) (a0P p.ch) &&
 O2 p.tg.l u.t0 u.t1 L5&&O2 p.ex.l u.e0 u.e1 K0 &&
 O2 p.pn.l (if u.procs then(p.ll.length:Int)else 0) (if u.procs then(p.ll.length:Int)else 0) (λn=>decide (n>=0)&&decide (n<8)) &&
 ((u.spec&&spP p.sp)||(!u.spec&&(S8 p.sp B4)))
def W2(p:Pr):Bool:=
 if !(C4 p.k).2||!a7n p.rep then false
 else if p.rep.name !=[]then(if !(C4 p.k).1.rep then false else a0k p (c0u (C4 p.k).1))else a0k p (C4 p.k).1
theorem Y4{α:Type}{l:List α}{a b:Int}{q:α->Bool}(h:O2 l a b q=true):(∀x∈l,q x=true)/\a<=l.length/\(l.length:Int)<=b:=by unfold O2 a9L at h;simp only[qa,qw,qK,List.any_eq_false]at h;exact⟨λx hx=>by have:=h.2 x hx;simpa using this,h.1.1,h.1.2⟩
theorem c8P{e:Ex}(h:L5 e=true):e.k=4\/e.k=5:=by unfold L5 at h;simp only[qa,qv,qU]at h;exact h.1
structure Pl(p:Pr):Prop where
 kd:(C4 p.k).2=true
 rep:a7n p.rep=true
 ch:(C4 p.k).1.chan=true->L5 p.ch=true
 nc:(C4 p.k).1.chan=false->a0P p.ch=true
 tg:∀x∈p.tg.l,L5 x=true
 ex:∀x∈p.ex.l,K0 x=true
 tn:(C4 p.k).1.t0<=p.tg.l.length/\(p.tg.l.length:Int)<=(C4 p.k).1.t1
 en:(C4 p.k).1.e0<=p.ex.l.length/\(p.ex.l.length:Int)<=(C4 p.k).1.e1
 gs:∀g∈p.gl,guP g=true/\(C4 p.k).1.lo<=g.k/\g.k<=(C4 p.k).1.hi
 gn:p.rep.name=[]->(C4 p.k).1.g0<=p.gl.length/\(p.gl.length:Int)<=(C4 p.k).1.g1
 pn:p.rep.name=[]->(C4 p.k).1.p0<=p.ll.length/\(p.ll.length:Int)<=(C4 p.k).1.p1
 rp:p.rep.name≠[]->(C4 p.k).1.rep=true
 sp:(C4 p.k).1.spec=true->spP p.sp=true
 ns:(C4 p.k).1.spec=false->S8 p.sp B4=true
theorem plU{p:Pr}{u:Us}(h:a0k p u=true):((a9L u.p0 u.p1 p.ll.length=true/\O2 p.gl u.g0 u.g1 (inG u)=true)/\a5C u.chan (L5 p.ch) (a0P p.ch)=true)/\(O2 p.tg.l u.t0 u.t1 L5=true/\O2 p.ex.l u.e0 u.e1 K0=true)/\((u.spec&&spP p.sp)||(!u.spec&&(S8 p.sp B4)))=true:=by unfold a0k at h;simp only[qa]at h;obtain⟨⟨⟨⟨⟨⟨⟨h1,h2⟩,h3⟩,h4⟩,h5⟩,h6⟩,h7⟩,h8⟩:=h;exact⟨⟨⟨h1,h2⟩,h4⟩,⟨h5,h6⟩,h8⟩
theorem c2E{u:Us}{g:Gu}(h:inG u g=true):guP g=true/\u.lo<=g.k/\g.k<=u.hi:=by unfold inG at h;simp only[qa,qw]at h;exact⟨h.2,h.1.1,h.1.2⟩
theorem b8V{a b n:Int}(h:a9L a b n=true):a<=n/\n<=b:=by unfold a9L at h;simp only[qa,qw]at h;exact h
theorem a6m{p:Pr}(h:W2 p=true):Pl p:=by
 unfold W2 at h;split at h
 ·cases h
 ·rename_i h0
  have h1:(C4 p.k).2=true/\a7n p.rep=true:=by cases h2:(C4 p.k).2<;>cases h3:a7n p.rep<;>simp_all
  have key:∀u:Us,a0k p u=true->u.chan=(C4 p.k).1.chan->u.spec=(C4 p.k).1.spec->u.t0=(C4 p.k).1.t0->u.t1=(C4 p.k).1.t1->u.e0=(C4 p.k).1.e0->u.e1=(C4 p.k).1.e1->u.lo=(C4 p.k).1.lo->u.hi=(C4 p.k).1.hi ->
   (p.rep.name=[]->u=(C4 p.k).1)->(p.rep.name≠[]->(C4 p.k).1.rep=true)->Pl p:=by
   intro u hu e1 e2 e3 e4 e5 e6 e7 e8 e9 e10;obtain⟨⟨⟨q1,q2⟩,q3⟩,⟨q4,q5⟩,q6⟩:=plU hu;obtain⟨g1,g2,g3⟩:=Y4 q2;obtain⟨t1,t2,t3⟩:=Y4 q4;obtain⟨x1,x2,x3⟩:=Y4 q5;refine⟨h1.1,h1.2,λhc=>?_,λhc=>?_,t1,x1,⟨e3▸t2,e4▸t3⟩,⟨e5▸x2,e6▸x3⟩,λg hg=>?_,λhr=>?_,λhr=>?_,e10,λhc=>?_,λhc=>?_⟩
   ·rw[e1,hc]at q3;exact q3
   ·rw[e1,hc]at q3;exact q3
   ·have:=c2E (g1 g hg)
    rw[e7,e8]at this;exact this
   ·rw[e9 hr]at g2 g3;exact⟨g2,g3⟩
   ·rw[e9 hr]at q1;exact b8V q1
   ·rw[e2,hc]at q6;simpa using q6
   ·rw[e2,hc]at q6;simpa using q6
  split at h
  ·rename_i hr
   have hr':p.rep.name≠[]:=by simpa using hr
   split at h
   ·cases h
   ·rename_i h4
    have h5:(C4 p.k).1.rep=true:=by simpa using h4
    unfold c0u at h;split at h
    ·exact key _ h rfl rfl rfl rfl rfl rfl rfl rfl (λq=>absurd q hr') (λ_=>h5)
    ·exact key _ h rfl rfl rfl rfl rfl rfl rfl rfl (λq=>absurd q hr') (λ_=>h5)
  ·rename_i hr
   have hr':p.rep.name=[]:=by simpa using hr
   exact key _ h rfl rfl rfl rfl rfl rfl rfl rfl (λ_=>rfl) (λq=>absurd hr' q)
structure GuV(g:Gu):Prop where
 body:g.bl.length=1
 cond:1<=g.k->g.k<=4->K0 g.cond=true\/a0P g.cond=true
 ch:g.k=3\/g.k=4->L5 g.ch=true
 time:g.k=4->K0 g.time=true
 tg:∀x∈g.tg.l,L5 x=true
 vl:∀x∈g.vl.l,K0 x=true
theorem b7H{g:Gu}(h:guP g=true):GuV g:=by
 unfold guP at h;simp only[qa]at h;obtain⟨⟨⟨⟨⟨⟨⟨⟨h1,h2⟩,h3⟩,h4⟩,h5⟩,h6⟩,h7⟩,h8⟩,h9⟩:=h;refine⟨by simp only[qU]at h3;omega,λa b=>?_,λa=>?_,λa=>?_,(Y4 h8).1,(Y4 h9).1⟩
 ·have hk:((g.k==1)||(g.k==2)||(g.k==3)||(g.k==4))=true:=by
   have:g.k=1\/g.k=2\/g.k=3\/g.k=4:=by omega
   rcases this with q|q|q|q<;>rw[q]<;>rfl
  rw[hk]at h4;replace h4:b06 g=true:=h4;unfold b06 at h4;split at h4
  ·simp only[qv]at h4;exact h4
  ·exact .inl h4
 ·have hk:((g.k==3)||(g.k==4))=true:=by rcases a with q|q<;>rw[q]<;>rfl
  rw[hk]at h6;exact h6
 ·have hk:(g.k==4)=true:=by rw[a];rfl
  rw[hk]at h7;exact h7
structure SpV(s:Sp):Prop where
 kd:1<=s.k/\s.k<=5
 ev:s.k=2->K0 s.e=true
 es:s.k=3->L5 s.e=true
 body:s.k=5->s.bl.length=1
 fs:s.k=5->s.fs.l.length<=8
theorem c6q{s:Sp}(h:spP s=true):SpV s:=by
 unfold spP at h;split at h
 ·rename_i hk
  simp only[qa]at h;have hf:=h.1.1;unfold a1l at hf;refine⟨hk,λe=>?_,λe=>?_,λe=>?_,λe=>?_⟩
  ·rw[if_neg (by omega),if_pos e]at hf
   simp only[qa]at hf;exact hf.2
  ·rw[if_neg (by omega),if_neg (by omega),if_pos e]at hf
   simp only[qa]at hf;exact hf.2
  ·rw[if_neg (by omega),if_neg (by omega),if_neg (by omega),if_neg (by omega)]at hf
   simp only[qa,qU]at hf;omega
  ·rw[if_neg (by omega),if_neg (by omega),if_neg (by omega),if_neg (by omega)]at hf
   simp only[qa,qU]at hf;have:=(Y4 hf.2).2.2;omega
 ·cases h
inductive Vld:Pr->Prop
 |mk {p:Pr} (h:W2 p=true) (s:∀x,In x p->Vld x):Vld p
theorem Vld.own{p:Pr}(q:Vld p):Pl p:=by cases q with|mk h _=>exact a6m h
theorem Vld.sub{p x:Pr}(q:Vld p)(hx:In x p):Vld x:=by cases q with|mk _ s=>exact s x hx
def a1F(p:Pr)(d:Int)(pl:Bool)(left:Int):Bool:=((decide (left-1<0)||decide (d>32))||!W2 p)||((p.k==11)&&!pl)
mutual
def M2:Pr->Int->Bool->Int->Bool×Int
 | .mk k name ch tg ex rep ga gc gl la lc ll pn sp,d,pl,left=>
  if a1F (.mk k name ch tg ex rep ga gc gl la lc ll pn sp) d pl left then(false,left-1)
  else if k=18 then
   (if(a1h sp d (left-1)).1 then
    (if(a0C ll d pl (a1h sp d (left-1)).2).1 then a3B gl (d+2) (a0C ll d pl (a1h sp d (left-1)).2).2 else a0C ll d pl (a1h sp d (left-1)).2)
   else a1h sp d (left-1))
  else if(a0C ll (if k=11 then d+2 else d+1) false (left-1)).1 then a3B gl (d+2) (a0C ll (if k=11 then d+2 else d+1) false (left-1)).2
  else a0C ll (if k=11 then d+2 else d+1) false (left-1)
def a0C:List Pr->Int->Bool->Int->Bool×Int
 | [],_,_,q=>(true,q)
 |x::r,d,pl,q=>if(M2 x d pl q).1 then a0C r d pl (M2 x d pl q).2 else M2 x d pl q
def a6e:List Pr->Int->Int->Bool×Int
 | [],_,q=>(true,q)
 |x::_,d,q=>M2 x d false q
def a2V:Gu->Int->Int->Bool×Int
 | .mk _ _ _ _ _ _ _ _ _ bl,d,q=>a6e bl d q
def a3B:List Gu->Int->Int->Bool×Int
 | [],_,q=>(true,q)
 |g::r,d,q=>if(a2V g d q).1 then a3B r d (a2V g d q).2 else a2V g d q
def a1h:Sp->Int->Int->Bool×Int
 | .mk _ _ _ _ cs _ _ _ _ bl,d,q=>if cs&&decide (d+2>32)then(false,q)else a6e bl (d+1) q
end
theorem a8G(p:Pr)(d:Int)(pl:Bool)(left:Int):M2 p d pl left =
 if a1F p d pl left then(false,left-1)
 else if p.k=18 then
  (if(a1h p.sp d (left-1)).1 then
   (if(a0C p.ll d pl (a1h p.sp d (left-1)).2).1 then a3B p.gl (d+2) (a0C p.ll d pl (a1h p.sp d (left-1)).2).2 else a0C p.ll d pl (a1h p.sp d (left-1)).2)
  else a1h p.sp d (left-1))
 else if(a0C p.ll (if p.k=11 then d+2 else d+1) false (left-1)).1 then a3B p.gl (d+2) (a0C p.ll (if p.k=11 then d+2 else d+1) false (left-1)).2
 else a0C p.ll (if p.k=11 then d+2 else d+1) false (left-1):=by cases p;rfl
theorem a7f(g:Gu)(d q:Int):a2V g d q=a6e g.bl d q:=by cases g;rfl
theorem a8R(s:Sp)(d q:Int):a1h s d q=if s.cs&&decide (d+2>32)then(false,q)else a6e s.bl (d+1) q:=by cases s;rfl
def mayP(p:Pr):Bool:=(M2 p 0 true 2048).1
theorem c6L{s:Sp}(h:spP s=true):s.bl.length<=1:=by
 have hV:=c6q h;by_cases h5:s.k=5
 ·have:=hV.body h5;omega
 ·unfold spP at h
  rw[if_pos hV.kd]at h;simp only[qa]at h;have h2:=h.2;unfold S8 at h2;simp only[qa,qU]at h2;have h3:=h2.2;have hw:(a1O s).bl.length=0:=by
   unfold a1O;split
   ·rfl
   split
   ·rfl
   split
   ·rfl
   split
   ·rfl
   ·have:=hV.kd
    omega
  omega
theorem c6W{s:Sp}(h:S8 s B4=true):s.bl=[]:=by unfold S8 at h;simp only[qa,qU]at h;have h3:(s.bl.length:Int)=0:=h.2;exact qB (by omega)
theorem b5w{k:Int}(h:k≠18):(C4 k).1.spec=false:=by
 unfold C4;by_cases h1:k=1
 ·rw[if_pos h1];rfl
 rw[if_neg h1];by_cases h2:k=2
 ·rw[if_pos h2];rfl
 rw[if_neg h2];by_cases h3:k=3
 ·rw[if_pos h3];rfl
 rw[if_neg h3];by_cases h4:k=4
 ·rw[if_pos h4];rfl
 rw[if_neg h4];by_cases h5:k=5
 ·rw[if_pos h5];rfl
 rw[if_neg h5];by_cases h6:k=6
 ·rw[if_pos h6];rfl
 rw[if_neg h6];by_cases h7:k=7
 ·rw[if_pos h7];rfl
 rw[if_neg h7];by_cases h8:k=8
 ·rw[if_pos h8];rfl
 rw[if_neg h8];by_cases h9:k=9
 ·rw[if_pos h9];rfl
 rw[if_neg h9];by_cases h10:k=10
 ·rw[if_pos h10];rfl
 rw[if_neg h10];by_cases h11:k=11
 ·rw[if_pos h11];rfl
 rw[if_neg h11];by_cases h12:k=12
 ·rw[if_pos h12];rfl
 rw[if_neg h12];by_cases h13:k=13
 ·rw[if_pos h13];rfl
 rw[if_neg h13];by_cases h14:k=14
 ·rw[if_pos h14];rfl
 rw[if_neg h14];by_cases h15:k=15
 ·rw[if_pos h15];rfl
 rw[if_neg h15];by_cases h16:k=16
 ·rw[if_pos h16];rfl
 rw[if_neg h16];by_cases h17:k=17
 ·rw[if_pos h17];rfl
 rw[if_neg h17];rw[if_neg h];rfl
theorem b4o{p:Pr}{d left:Int}{pl:Bool}(h:a1F p d pl left=false):(0<=left-1/\d<=32)/\W2 p=true:=by unfold a1F at h;simp only[qA,decide_eq_false_iff_not,zy]at h;exact⟨⟨by omega,by omega⟩,h.1.2⟩
def Cnt(n:Nat)(q:Int)(r:Bool×Int):Prop:=r.1=true->(n:Int)=q-r.2/\0<=r.2
theorem a8Z{l:List Pr}{d q:Int}(hq:0<=q)(hl:l.length<=1)(ih:∀x∈l,∀d pl q,0<=q->(M2 x d pl q).1=true->Vld x/\Cnt (W9 x) q (M2 x d pl q))(h:(a6e l d q).1=true):(∀x∈l,Vld x)/\(S2 l:Int)=q-(a6e l d q).2/\0<=(a6e l d q).2:=by
 match l,hl with
 | [],_=>exact⟨λx hx=>(by cases hx),by show((0:Nat):Int)=q-q;omega,hq⟩
 | [x],_=>have h':(M2 x d false q).1=true:=h;obtain⟨h1,h2⟩:=ih x (qm _) d false q hq h';obtain⟨h3,h4⟩:=h2 h';refine⟨λy hy=>by cases qy.1 hy;exact h1,?_,h4⟩;show((W9 x+0:Nat):Int)=_;rw[Nat.add_zero];exact h3
theorem a8S{d:Int}{pl:Bool}:∀{l:List Pr}{q:Int},0<=q->(∀x∈l,∀d pl q,0<=q->(M2 x d pl q).1=true->Vld x/\Cnt (W9 x) q (M2 x d pl q))->(a0C l d pl q).1=true->(∀x∈l,Vld x)/\(S2 l:Int)=q-(a0C l d pl q).2/\0<=(a0C l d pl q).2
 | [],q,hq,_,_=>⟨λx hx=>(by cases hx),by show((0:Nat):Int)=q-q;omega,hq⟩
 |x::r,q,hq,ih,h=>by
  have e:a0C (x::r) d pl q=if(M2 x d pl q).1 then a0C r d pl (M2 x d pl q).2 else M2 x d pl q:=rfl
  rw[e]at h⊢;cases hc:(M2 x d pl q).1 with
  |false=>rw[hc,if_neg (by decide)]at h;rw[hc]at h;cases h
  |true=>
   rw[hc,if_pos rfl]at h;rw[if_pos rfl];obtain⟨h1,h2⟩:=ih x (qm _) d pl q hq hc;obtain⟨h3,h4⟩:=h2 hc;obtain⟨h5,h6,h7⟩:=a8S h4 (λy hy=>ih y (qD _ hy)) h;refine⟨λy hy=>?_,?_,h7⟩
   ·rcases qQ.1 hy with rfl|hy
    ·exact h1
    ·exact h5 y hy
   ·show((W9 x+S2 r:Nat):Int)=_
    omega
theorem a9z{d:Int}:∀{l:List Gu}{q:Int},0<=q->(∀g∈l,g.bl.length<=1)->(∀g∈l,∀x∈g.bl,∀d pl q,0<=q->(M2 x d pl q).1=true->Vld x/\Cnt (W9 x) q (M2 x d pl q))->(a3B l d q).1=true->(∀g∈l,∀x∈g.bl,Vld x)/\(a1V l:Int)=q-(a3B l d q).2/\0<=(a3B l d q).2
 | [],q,hq,_,_,_=>⟨λx hx=>(by cases hx),by show((0:Nat):Int)=q-q;omega,hq⟩
 |g::r,q,hq,hb,ih,h=>by
  have e:a3B (g::r) d q=if(a2V g d q).1 then a3B r d (a2V g d q).2 else a2V g d q:=rfl
  rw[e,a7f]at h⊢;cases hc:(a6e g.bl d q).1 with
  |false=>rw[hc,if_neg (by decide)]at h;rw[hc]at h;cases h
  |true=>
   rw[hc,if_pos rfl]at h;rw[if_pos rfl];obtain⟨h1,h3,h4⟩:=a8Z hq (hb g (qm _)) (ih g (qm _)) hc;obtain⟨h5,h6,h7⟩:=a9z h4 (λg' hg=>hb g' (qD _ hg)) (λg' hg=>ih g' (qD _ hg)) h;refine⟨λy hy=>?_,?_,h7⟩
   ·rcases qQ.1 hy with rfl|hy
    ·exact h1
    ·exact h5 y hy
   ·show((b6z g+a1V r:Nat):Int)=_
    rw[b2B];omega
theorem b0C(p:Pr):∀(d:Int)(pl:Bool)(q:Int),0<=q->(M2 p d pl q).1=true->Vld p/\Cnt (W9 p) q (M2 p d pl q):=by
 refine Pr.ind (q:=λp=>∀(d:Int)(pl:Bool)(q:Int),0<=q->(M2 p d pl q).1=true->Vld p/\Cnt (W9 p) q (M2 p d pl q)) (λp ih d pl q hq h=>?_) p;have e:=a8G p d pl q;cases hh:a1F p d pl q with
 |true=>rw[hh,if_pos rfl]at e;rw[e]at h;cases h
 |false=>
  rw[hh,if_neg (by decide)]at e;obtain⟨⟨h0,_⟩,hpl⟩:=b4o hh;have hV:=a6m hpl;have hgb:∀g∈p.gl,g.bl.length<=1:=λg hg=>by have:=(b7H (hV.gs g hg).1).body;omega
  have ihL:∀x∈p.ll,∀d pl q,0<=q->(M2 x d pl q).1=true->Vld x/\Cnt (W9 x) q (M2 x d pl q):=λx hx=>ih x (In.l hx)
  have ihG:∀g∈p.gl,∀x∈g.bl,∀d pl q,0<=q->(M2 x d pl q).1=true->Vld x/\Cnt (W9 x) q (M2 x d pl q):=λg hg x hx=>ih x (In.g hg hx)
  have ihS:∀x∈p.sp.bl,∀d pl q,0<=q->(M2 x d pl q).1=true->Vld x/\Cnt (W9 x) q (M2 x d pl q):=λx hx=>ih x (In.s hx)
  have mk:(∀x∈p.ll,Vld x)->(∀g∈p.gl,∀x∈g.bl,Vld x)->(∀x∈p.sp.bl,Vld x)->Vld p:=λa b c=>.mk hpl λx hx=>by
   cases hx with
   |l h=>exact a x h
   |s h=>exact c x h
   |g hg h=>exact b _ hg x h
  have hcp:=a8J p;by_cases h18:p.k=18
  ·rw[if_pos h18]at e
   have hsl:p.sp.bl.length<=1:=c6L (hV.sp (by rw[h18];rfl));cases hS:(a1h p.sp d (q-1)).1 with
   |false=>rw[hS,if_neg (by decide)]at e;rw[e,hS]at h;cases h
   |true=>
    rw[hS,if_pos rfl]at e;have hSS:(∀x∈p.sp.bl,Vld x)/\(S2 p.sp.bl:Int)=(q-1)-(a1h p.sp d (q-1)).2/\0<=(a1h p.sp d (q-1)).2:=by
     rw[a8R]at hS⊢;split at hS
     ·cases hS
     ·rename_i hc
      rw[if_neg hc];exact a8Z h0 hsl ihS hS
    obtain⟨s1,s2,s3⟩:=hSS;cases hL:(a0C p.ll d pl (a1h p.sp d (q-1)).2).1 with
    |false=>rw[hL,if_neg (by decide)]at e;rw[e,hL]at h;cases h
    |true=>rw[hL,if_pos rfl]at e;obtain⟨l1,l2,l3⟩:=a8S s3 ihL hL;rw[e]at h;obtain⟨g1,g2,g3⟩:=a9z l3 hgb ihG h;refine⟨mk l1 g1 s1,λ_=>?_⟩;rw[e];rw[a8M]at hcp;exact⟨by omega,g3⟩
  ·rw[if_neg h18]at e
   have hsn:p.sp.bl=[]:=by have hsp:(C4 p.k).1.spec=false:=b5w h18;exact c6W (hV.ns hsp)
   cases hL:(a0C p.ll (if p.k=11 then d+2 else d+1) false (q-1)).1 with
   |false=>rw[hL,if_neg (by decide)]at e;rw[e,hL]at h;cases h
   |true=>rw[hL,if_pos rfl]at e;obtain⟨l1,l2,l3⟩:=a8S h0 ihL hL;rw[e]at h;obtain⟨g1,g2,g3⟩:=a9z l3 hgb ihG h;refine⟨mk l1 g1 (by rw[hsn];intro x hx;cases hx),λ_=>?_⟩;rw[e];rw[a8M,hsn]at hcp;replace hcp:W9 p=1+(S2 p.ll+(0+a1V p.gl)):=hcp;exact⟨by omega,g3⟩
theorem c0v{p:Pr}(h:mayP p=true):Vld p/\W9 p<=2048:=by obtain⟨h1,h2⟩:=b0C p 0 true 2048 (by decide) h;obtain⟨h3,h4⟩:=h2 h;exact⟨h1,by omega⟩
end
end Go.Pc
namespace Go.Ty
section
open Go.Lx
def a1e:B:=[67,72,65,78]
def cOF:B:=[79,70]
def a2Z:B:=[84,73,77,69,82]
def lb:B:=[91]
def rb:B:=[93]
def D3(s:B):Tok:=⟨5,0,s,0⟩
def I2(s:B):Tok:=⟨2,0,s,0⟩
def dimT(t:Ty):Lt:=if decide (t.dim>0)then[D3 lb,⟨3,0,[],t.dim⟩,D3 rb]else[]
def chanT(t:Ty):Lt:=if t.kind==4 then[I2 a1e,I2 cOF]else[]
def a5h(t:Ty):Int:=if t.kind==4 then t.item else t.kind
def lastT(t:Ty):Tok:=if(wordS (a5h t)).2.2 then I2 (wordS (a5h t)).1 else if !(t.proto==[])then⟨1,0,t.proto,0⟩else I2 a2Z
def toks(t:Ty):Lt:=dimT t++chanT t++[lastT t]
def tokens(t:Ty):Lt×Int:=if may t then(toks t,0)else([],2)
theorem a3G{t:Ty}(h:may t=false):tokens t=([],2):=by unfold tokens;rw[h];rfl
theorem K1{t:Ty}(h:may t=true):tokens t=(toks t,0):=by unfold tokens;rw[h];rfl
theorem dimT_le(t:Ty):(dimT t).length<=3:=by unfold dimT;split<;>simp
theorem chanT_le(t:Ty):(chanT t).length<=2:=by unfold chanT;split<;>simp
theorem may_dim{t:Ty}(h:may t=true):0<=t.dim/\t.dim<=64:=by
 unfold may at h;split at h
 ·cases h
 ·rename_i hf
  unfold far at hf;simp at hf;omega
theorem b5f{t:Ty}(h:may t=true):IntKind.i32.wrap t.dim=t.dim:=by have:=may_dim h;unfold IntKind.wrap;simp[IntKind.bits,IntKind.signed];omega
def TkOk(l:Lt):Prop:=∀x,x∈l->(-2147483648<=x.n/\x.n<=2147483647)/\x.text.length<=9223372036854775807
def G1(l:Lt)(n:Nat):Tok:=l.getD n zeroK
theorem a1q{l:Lt}{n:Nat}(h:n<l.length):l[n]?=some (G1 l n):=by unfold G1;rw[ql,qk h];rfl
def a0z(l:Lt)(n:Nat)(kd:Int)(s:B):Bool:=
 decide ((n:Int)>=(l.length:Int))||((G1 l n).kind !=kd)||!((G1 l n).text==s)||((kd !=3)&&((G1 l n).n !=0))
def next(l:Lt)(n:Nat)(kd:Int)(s:B):Bool:=!a0z l n kd s
def nx(b:Bool)(n:Nat):Nat:=if b then n+1 else n
theorem a4v{l:Lt}{n:Nat}{kd:Int}{s:B}(h:next l n kd s=true):n<l.length:=by unfold next a0z at h;simp at h;omega
def a2i(l:Lt)(n:Nat):List Pm->Option Int
 | []=>none
 |p::r=>if next l n 2 p.word then some p.kind else a2i l n r
theorem a6U(l:Lt)(n:Nat){r:List Pm}{i:Nat}{p:Pm}(hp:r[i]?=some p):a2i l n (r.drop i)=if next l n 2 p.word then some p.kind else a2i l n (r.drop (i+1)):=by have h1:i<r.length:=(qd.1 hp).1;rw[qq h1,(qd.1 hp).2];rfl
def named(l:Lt)(n:Nat):Option Int:=a2i l n prims
def nmB(l:Lt)(n:Nat):Bool:=(named l n).isSome
def a5L(t:Ty):Option Int->Ty
 |some k=>{ t with kind:=k }
 |none=>t
def a6H(t:Ty):Option Int->Ty
 |some k=>{ t with item:=k }
 |none=>t
theorem b0s{l:Lt}{n:Nat}:∀{r:List Pm}{k:Int},a2i l n r=some k->n<l.length
 |p::r,k,h=>by
  unfold a2i at h;split at h
  ·rename_i hn;exact a4v hn
  ·exact b0s h
theorem c8v{l:Lt}{n:Nat}(h:nmB l n=true):n<l.length:=by
 unfold nmB at h;cases hn:named l n with
 |none=>rw[hn]at h;cases h
 |some k=>exact b0s hn
def pre(l:Lt):Bool×Int×Nat:=
 if next l 0 5 lb then
  (if next l 1 3 []then
   (if decide ((G1 l 1).n>0)&&next l 2 5 rb then(true,(G1 l 1).n,3)else(false,(G1 l 1).n,2))
   else(false,0,1))
 else(true,0,0)
def mid(l:Lt):Bool×Ty×Nat:=
 match pre l with
 |(false,d,n)=>(false,⟨0,d,0,[]⟩,n)
 |(true,d,n)=>
  match named l n with
  |some k=>(true,⟨k,d,0,[]⟩,n+1)
  |none=>
   if next l n 2 a1e then
    (if next l (n+1) 2 cOF then
     (match named l (n+2)with
      |some k=>(true,⟨4,d,k,[]⟩,n+3)
      |none=>if decide ((n+2:Nat)<(l.length:Int))&&next l (n+2) 1 (G1 l (n+2)).text then(true,⟨4,d,0,(G1 l (n+2)).text⟩,n+3)else(true,⟨4,d,0,[]⟩,n+2))
     else(false,⟨4,d,0,[]⟩,n+1))
   else if next l n 2 a2Z then(true,⟨5,d,0,[]⟩,n+1)else(true,⟨0,d,0,[]⟩,n)
def front(l:Lt):Ty×Nat×Int:=
 match mid l with
 |(ok,t,n)=>if !ok||!may t then(zeroT,0,90)else(t,n,0)
theorem c2D{b:Bool}{n L:Nat}(h1:b=true->n<L)(h2:n<=L):nx b n<=L:=by
 unfold nx;cases b
 ·exact h2
 ·exact h1 rfl
theorem b6m{l:Lt}(h1:next l 0 5 lb=true)(h2:next l 1 3 []=true) :
 pre l=(decide ((G1 l 1).n>0)&&next l 2 5 rb,(G1 l 1).n,nx (decide ((G1 l 1).n>0)&&next l 2 5 rb) 2):=by
 unfold pre;rw[h1,h2];generalize (decide ((G1 l 1).n>0)&&next l 2 5 rb)=b;cases b<;>rfl
theorem c0X{l:Lt}(h1:next l 0 5 lb=true)(h2:next l 1 3 []=false):pre l=(false,0,1):=by unfold pre;rw[h1,h2];rfl
theorem c1Q{l:Lt}(h1:next l 0 5 lb=false):pre l=(true,0,0):=by unfold pre;rw[h1];rfl
theorem c4v{l:Lt}{ok:Bool}{d:Int}{n:Nat}(hP:pre l=(ok,d,n))(hc:(!ok||nmB l n)=true):mid l=(ok,a5L ⟨0,d,0,[]⟩ (if ok then named l n else none),nx (ok&&nmB l n) n):=by
 unfold mid;rw[hP];cases ok with
 |false=>rfl
 |true=>
  unfold nmB at hc⊢;cases hn:named l n with
  |none=>rw[hn]at hc;cases hc
  |some k=>simp only[hn];rfl
theorem b5Q{l:Lt}{n:Nat}(h:nmB l n=false):named l n=none:=by
 unfold nmB at h;cases hn:named l n with
 |none=>rfl
 |some k=>rw[hn]at h;cases h
theorem c1Y{l:Lt}{d:Int}{n N N2:Nat}{o b:Bool}{T2:Ty}(hP:pre l=(true,d,n))(hn:named l n=none)(h38:next l n 2 a1e=true)(ho:next l (n+1) 2 cOF=o)(hN:nx o (n+1)=N)(hN2:nx (o&&nmB l N) N=N2)
 (hT:a6H ⟨4,d,0,[]⟩ (if o then named l N else none)=T2) (hb:((o&&!nmB l N)&&decide ((N2:Int)<l.length)&&next l N2 1 (G1 l N2).text)=b) :
 mid l=(o,if b then { T2 with proto:=(G1 l N2).text }else T2,nx b N2):=by
 unfold mid;rw[hP];simp only[hn,h38,ho,if_true];cases o with
 |false=>subst hT hN2 hN;simp at hb;subst hb;rfl
 |true=>
  have e:N=n+2:=hN.symm;subst e;simp only[if_true];unfold nmB at hN2 hb;cases hm:named l (n+2)with
  |some k=>rw[hm]at hN2 hb hT;simp at hb;subst hb hT hN2;rfl
  |none=>
   rw[hm]at hN2 hb hT;have e:N2=n+2:=hN2.symm;subst e;have hb':(decide (((n+2:Nat):Int)<(l.length:Int))&&next l (n+2) 1 (G1 l (n+2)).text)=b:=by simpa using hb
   simp only[hb'];subst hT;cases b<;>rfl
theorem b3b{l:Lt}{d:Int}{n:Nat}(hP:pre l=(true,d,n))(hn:named l n=none)(h38:next l n 2 a1e=false)(h73:next l n 2 a2Z=true):mid l=(true,⟨5,d,0,[]⟩,n+1):=by unfold mid;rw[hP];simp only[hn,h38,h73,if_true,qp,if_false]
theorem b7z{l:Lt}{d:Int}{n:Nat}(hP:pre l=(true,d,n))(hn:named l n=none)(h38:next l n 2 a1e=false)(h73:next l n 2 a2Z=false):mid l=(true,⟨0,d,0,[]⟩,n):=by unfold mid;rw[hP];simp only[hn,h38,h73,qp,if_false]
theorem b4Q{l:Lt}{ok:Bool}{t:Ty}{n:Nat}(h:mid l=(ok,t,n))(hc:(!ok||!may t)=true):front l=(zeroT,0,90):=by unfold front;rw[h];simp only[hc,if_true]
theorem b2k{l:Lt}{ok:Bool}{t:Ty}{n:Nat}(h:mid l=(ok,t,n))(hc:(!ok||!may t)=false):front l=(t,n,0):=by unfold front;rw[h];simp only[hc,qp,if_false]
theorem wrapN{z:Int}(h:-2147483648<=z/\z<=2147483647):IntKind.i64.wrap z=z:=by unfold IntKind.wrap;simp[IntKind.bits,IntKind.signed];omega
end
end Go.Ty
namespace Go.Ly
section
open Go.Eng
abbrev B:=List UInt8
structure Rw where
 no:Int
 depth:Int
 text:B
structure Pc where
 no:Nat
 ind:Nat
 text:B
def encB(s:B):Lv:=[str s]
theorem C0(s:B):(encB s).length=1:=rfl
@[reducible,instance]def iencB_len:=Go.Eng.Ln.mk C0 (by decide)
def K7(r:Rw):Lv:=[.int .i64 r.no,.int .i64 r.depth,str r.text]
theorem C6(r:Rw):(K7 r).length=3:=rfl
@[reducible,instance]def iencR_len:=Go.Eng.Ln.mk C6 (by decide)
def c1d(acc:B):B->List B
 | []=>[acc]
 |c::l=>if c==10 then acc::c1d [] l else c1d (acc++[c]) l
theorem c4n:∀s:B,(Lib.indexByte s 10=-1/\(10:UInt8)∉s)\/∃a r,s=a++10::r/\(10:UInt8)∉a/\Lib.indexByte s 10=a.length
 | []=>.inl ⟨rfl,by simp⟩
 |c::l=>by
  unfold Lib.indexByte;by_cases hc:(c==10)=true
  ·rw[if_pos hc]
   exact .inr ⟨[],l,by rw[eq_of_beq hc];rfl,by simp,rfl⟩
  ·rw[if_neg hc]
   have hc':c≠10:=λe=>hc (by simp[e])
   rcases c4n l with⟨e,h⟩|⟨a,r,rfl,h,e⟩
   ·rw[e]
    exact .inl ⟨rfl,by simp[h,Ne.symm hc']⟩
   ·rw[e,if_neg (by simp)]
    exact .inr ⟨c::a,r,rfl,by simp[h,Ne.symm hc'],by simp⟩
def a8B:B->B
 | []=>[]
 |c::l=>if c==45&&l.head?==some 45 then[]else c::a8B l
theorem c6Q(c:UInt8)(l:B):([45,45]:B).isPrefixOf (c::l)=(c==45&&l.head?==some 45):=by
 cases l with
 |nil=>simp[List.isPrefixOf]
 |cons d l=>simp only[List.isPrefixOf,List.head?_cons,za];rw[show((45:UInt8)==c)=(c==45) from jk,show((45:UInt8)==d)=(some d==some 45) from(jk:((45:UInt8)==d)=(d==45))]
theorem c2I:∀s:B,(Lib.cut s [45,45]).1=a8B s
 | []=>rfl
 |c::l=>by
  have ih:=c2I l;have hge:=Lib.index_ge l [45,45];unfold Lib.cut at ih⊢;unfold a8B Lib.index;rw[c6Q];by_cases hc:(c==45&&l.head?==some 45)=true
  ·rw[if_pos hc,if_pos hc];rfl
  ·rw[if_neg hc,if_neg hc,<-ih]
   by_cases hi:Lib.index l [45,45]=-1
   ·have e1:(Lib.index l [45,45]==-1)=true:=by simp[hi]
    simp only[e1,if_true];rw[if_neg (by decide),if_neg (by omega)]
   ·have e1:(Lib.index l [45,45]==-1)=false:=by simpa using hi
    simp only[e1,qp,if_false];rw[if_pos (by omega),if_pos (by omega)];rw[show(Lib.index l [45,45]+1).toNat=(Lib.index l [45,45]).toNat+1 by omega];rfl
def c7d(s:B):B:=Lib.trimRightB (a8B s) 32
def txt(s:B):B:=Lib.trimLeftB (c7d s) 32
def ind(s:B):Nat:=(c7d s).length-(txt s).length
def b1s:B:=[44,59,40,91,43,45,42,47,92,61,60,62,126,38]
def a8y(s:B):Bool:=match s.getLast? with
 |none=>false
 |some c=>b1s.contains c
theorem b3X(c:UInt8):∀l:B,decide (Lib.indexByte l c>=0)=l.contains c
 | []=>rfl
 |x::l=>by
  have ih:=b3X c l;have hge:=Lib.indexByte_ge l c;unfold Lib.indexByte;rw[List.contains_cons,show(c==x)=(x==c) from jk];by_cases h:(x==c)=true
  ·rw[if_pos h,h];rfl
  ·rw[if_neg h,show(x==c)=false by simpa using h,zC,<-ih]
   by_cases hi:Lib.indexByte l c=-1
   ·rw[if_pos (by simp[hi]),hi]
   ·rw[if_neg (by simpa using hi)]
    apply decide_eq_decide.2;omega
def okB(c:UInt8):Bool:=decide ((c.toNat:Int)>=32)&&decide ((c.toNat:Int)<=126)
structure S where
 parts:List B
 first:Pc
 before:Int
 last:Nat
 out:List Rw
abbrev Out:=List Rw×Nat×Nat
def b1L(s:S):B:=Lib.join s.parts [32]
def c9H(s:S):Bool:=decide (s.first.ind/2>32)||decide ((b1L s).length>256)||decide (s.out.length=2048)
def c7X(s:S):S:=⟨[],s.first,(s.first.ind/2:Nat),s.last,s.out++[⟨s.first.no,(s.first.ind/2:Nat),b1L s⟩]⟩
def c9c(k:S->Out)(s:S):Out:=if a8y (b1L s)then k s else if c9H s then([],s.first.no,3)else k (c7X s)
def c6T(s:S)(p:Pc):Bool:=!s.parts.isEmpty&&decide (p.ind<s.first.ind)
def c6S(s:S)(p:Pc):Bool:=s.parts.isEmpty&&(decide (p.ind%2=1)||decide (((p.ind/2:Nat):Int)>s.before+1))
def b1S(s:S)(p:Pc):S:=⟨s.parts++[p.text],if s.parts.isEmpty then p else s.first,s.before,p.no,s.out⟩
def run:List Pc->S->Out
 | [],s=>if s.parts.isEmpty then(s.out,0,0)else([],s.last,5)
 |p::ps,s=>if c6T s p then([],p.no,70)else if c6S s p then([],p.no,70)else c9c (run ps) (b1S s p)
def s0:S:=⟨[],⟨0,0,[]⟩,-1,0,[]⟩
theorem a5x(p:Pc)(ps:List Pc)(s:S):run (p::ps) s=if c6T s p then([],p.no,70)else if c6S s p then([],p.no,70)else c9c (run ps) (b1S s p):=rfl
theorem b9X(ps:List B)(t:B):Lib.join (ps++[t]) [32]=if ps.isEmpty then t else Lib.join ps [32]++32::t:=by
 cases ps with
 |nil=>exact Lib.join_one t [32]
 |cons x r=>rw[qN,Lib.join_cons,Lib.join_cons];simp[Lib.joinTail]
theorem b8Y(s:S)(p:Pc):b1L (b1S s p)=if s.parts.isEmpty then p.text else b1L s++32::p.text:=b9X _ _
structure PcOk(p:Pc):Prop where
 ne:p.text≠[]
 len:p.text.length<=65536
 ind:p.ind<=65536
 no:p.no<=65537
structure Inv(N:Nat)(s:S):Prop where
 cnt:s.parts.length+s.out.length<=N
 txt:(b1L s).length<=N*65537
 bef:-1<=s.before/\s.before<=65536
 ind:s.first.ind<=65536
 out:s.out.length<=2048
theorem Inv.take{N:Nat}{s:S}{p:Pc}(h:Inv N s)(hp:PcOk p):Inv (N+1) (b1S s p):=by
 have h1:=h.cnt;have h2:=h.txt;have h3:=hp.len;have h4:=h.ind;have h5:=hp.ind;refine⟨by simp only[b1S,qh,qO];omega,?_,h.bef,?_,h.out⟩
 ·rw[b8Y]
  split
  ·omega
  ·simp
   omega
 ·simp only[b1S]
  split<;>omega
theorem P9{α:Type}{l:List α}{k:Nat}{c:α}(hc:l[k]?=some c):l.drop k=c::l.drop (k+1):=by have h1:k<l.length:=(qd.1 hc).1;rw[qq h1,(qd.1 hc).2]
theorem a3u{α:Type}{l:List α}{k:Nat}{c:α}(hc:l[k]?=some c):l.take (k+1)=l.take k++[c]:=take_snoc hc
theorem b5L{l:B}{c:UInt8}(h:(c==32)=false):Lib.trimRightB (l++[c]) 32=l++[c]:=by simp[Lib.trimRightB,h]
theorem Inv.mono{N N':Nat}{s:S}(h:Inv N s)(hn:N<=N'):Inv N' s:=by have h1:=h.cnt;have h2:=h.txt;exact⟨qr h1 hn,qr h2 (zw 65537 hn),h.bef,h.ind,h.out⟩
def b8x(s:B):Bool:=(((((s==[])||decide ((s.length:Int)>256))||(Lib.trimB s 32 !=s))||Lib.contains s [45,45])||a8y s)
def validP(s:B):Bool:=!b8x s&&s.all okB
def b0S(no depth:Int)(x:Rw):Bool:=((((decide (x.no<=no)||decide (x.no>65536))||decide (x.depth<0))||decide (x.depth>if 32<depth+1 then 32 else depth+1))||!validP x.text)
def b0X(no depth size:Int):List Rw->Bool
 | []=>decide (size<=65537)
 |x::r=>if b0S no depth x then false else b0X x.no x.depth (size+2*x.depth+x.text.length+1) r
def mayP(l:List Rw):Bool:=if(l.length:Int)>2048 then false else b0X 0 (-1) 0 l
theorem b21{no depth size:Int}{l:List Rw}{k:Nat}{x:Rw}(hx:l[k]?=some x):b0X no depth size (l.drop k)=if b0S no depth x then false else b0X x.no x.depth (size+2*x.depth+x.text.length+1) (l.drop (k+1)):=by rw[P9 hx];rfl
theorem validP_spec{s:B}(h:validP s=true):s≠[]/\s.length<=256/\Lib.trimB s 32=s/\Lib.contains s [45,45]=false/\a8y s=false/\s.all okB=true:=by simp only[validP,b8x,qa,qK,qA,decide_eq_false_iff_not,bne_eq_false_iff_eq,qW]at h;obtain⟨⟨⟨⟨⟨h1,h2⟩,h3⟩,h4⟩,h5⟩,h6⟩:=h;exact⟨h1,by omega,h3,h4,h5,h6⟩
theorem b2X{no depth:Int}{x:Rw}(h:b0S no depth x=false):no<x.no/\x.no<=65536/\0<=x.depth/\x.depth<=depth+1/\x.depth<=32/\validP x.text=true:=by simp only[b0S,qA,decide_eq_false_iff_not,zy]at h;obtain⟨⟨⟨⟨h1,h2⟩,h3⟩,h4⟩,h5⟩:=h;split at h4<;>exact⟨by omega,by omega,by omega,by omega,by omega,h5⟩
theorem mayA_all:∀{l:List Rw}{no depth size:Int},b0X no depth size l=true->∀x∈l,0<=x.depth/\x.depth<=32/\validP x.text=true
 | [],_,_,_,_,x,hx=>by cases hx
 |y::r,no,depth,size,h,x,hx=>by
  unfold b0X at h;split at h
  ·cases h
  ·rename_i hb
   obtain⟨h1,h2,h3,h4,h5,h6⟩:=b2X (by simpa using hb);rcases qQ.1 hx with rfl|hx
   ·exact⟨h3,h5,h6⟩
   ·exact mayA_all h x hx
theorem mayP_all{l:List Rw}(h:mayP l=true):l.length<=2048/\∀x∈l,0<=x.depth/\x.depth<=32/\x.text.length<=256:=by
 unfold mayP at h;split at h
 ·cases h
 ·exact⟨by omega,λx hx=>by obtain⟨h1,h2,h3⟩:=mayA_all h x hx;exact⟨h1,h2,(validP_spec h3).2.1⟩⟩
def eqR(x y:Rw):Bool:=x.no==y.no&&(x.depth==y.depth&&(x.text==y.text&&true))
theorem b3j(x y:Rw):eqR x y=true↔x=y:=by
 cases x;cases y
 simp[eqR]
theorem b2W{x y:Rw}(h:(!eqR x y)=true):eqR x y=false:=by simpa using h
theorem b3g{x y:Rw}(h:(!eqR x y)=false):eqR x y=true:=by simpa using h
end
end Go.Ly
namespace Go.Sx
section
open Go.Eng Go.Pc Go
open Go.Xp hiding B
open Go.Ty (Ty Vr Tok)
open Go.Ly (Rw)
abbrev E(α:Type):=Except Int (α×Lt)
def I3{α β:Type}(r:E α)(f:α->Lt->E β):E β:=match r with
 | .ok (x,ts)=>f x ts
 | .error e=>.error e
def isM(k:Int)(s:B):Lt->Bool
 | []=>false
 |t::_=>(t.kind==k)&&(t.text==s)
def Q5{β:Type}(k:Int)(s:B)(ts:Lt)(f:Lt->E β):E β:=if isM k s ts then f ts.tail else .error 110
def O0:Lt->E B
 | []=>.error 110
 |t::r=>if t.kind=1 then .ok (t.text,r)else .error 110
def G6(ts:Lt):E Ex:=match Q2 ts with
 | .ok (x,k)=>.ok (x,ts.drop k)
 | .error _=>.error 110
def C5(ts:Lt):E Ex:=if(ts.headD Go.Ty.zeroK).kind=1 then I3 (G6 ts) λx r=>if L5 x then .ok (x,r)else .error 110 else .error 110
def a1Y(ts:Lt):E Ty:=if(Go.Ty.front ts).2.2=0 then .ok ((Go.Ty.front ts).1,ts.drop (Go.Ty.front ts).2.1)else .error 110
def S1(ts:Lt):E Int:=I3 (a1Y ts) λt r=>if N4 t then .ok (t.kind,r)else .error 110
def a0d(ts:Lt):E Fo:=I3 (a1Y (if isM 2 [86,65,76] ts then ts.tail else ts)) λt r=>I3 (O0 r) λn r=>if foP ⟨isM 2 [86,65,76] ts,t,n⟩then .ok (⟨isM 2 [86,65,76] ts,t,n⟩,r)else .error 110
def R6{α:Type}(take:Lt->E α)(sep:B):Nat->List α->Lt->E (List α)
 |0,acc,ts=>if isM 5 sep ts then .error 110 else .ok (acc,ts)
 |n+1,acc,ts=>if isM 5 sep ts then I3 (take ts.tail) λx r=>R6 take sep n (acc++[x]) r else .ok (acc,ts)
def H1{α:Type}(take:Lt->E α)(sep:B)(most:Nat)(ts:Lt):E (List α):=I3 (take ts) λx r=>R6 take sep (most-1) [x] r
def brM{α:Type}(take:Lt->E α)(ts:Lt):E (List α):=Q5 5 [40] ts λr=>if isM 5 [41] r then .ok ([],r.tail)else I3 (H1 take [44] 8 r) λl r=>Q5 5 [41] r λr=>.ok (l,r)
def B0:Rp:=⟨[],A0,A0⟩
def a8A(ts:Lt):E Rp:=if ts.isEmpty then .ok (B0,ts)else I3 (O0 ts) λn r=>Q5 5 [61] r λr=>I3 (G6 r) λb r=>Q5 2 [70,79,82] r λr=>I3 (G6 r) λc r=>.ok (⟨n,b,c⟩,r)
def sl{α:Type}(l:List α):Sli α:=⟨none,0,l⟩
def guM(k:Int)(nm:B)(cond ch:Ex)(tg vl:List Ex)(time:Ex):Gu:=.mk k nm cond ch (sl tg) (sl vl) time none 0 []
def ifM(ts:Lt):E Gu:=I3 (G6 ts) λc r=>.ok (guM 1 [] c A0 [] [] A0,r)
def a7u(ts:Lt):Bool:=match Q2 ts with
 | .ok (_,n)=>isM 5 [38] (ts.drop n)
 | .error _=>false
def a6h(c:Ex)(ts:Lt):E Gu:=I3 (C5 ts) λch r=>Q5 5 [63] r λr=>if isM 2 [65,70,84,69,82] r then I3 (G6 r.tail) λt r=>.ok (guM 4 [] c ch [] [] t,r)else I3 (H1 C5 [59] 8 r) λl r=>.ok (guM 3 [] c ch l [] A0,r)
def a3D(ts:Lt):E Gu:=if a7u ts then I3 (G6 ts) λc r=>Q5 5 [38] r λr=>if isM 2 [83,75,73,80] r then .ok (guM 2 [] c A0 [] [] A0,r.tail)else a6h c r else a6h A0 ts
def a9u(ts:Lt):E Gu:=if isM 2 [69,76,83,69] ts then .ok (guM 6 [] A0 A0 [] [] A0,ts.tail)else I3 (H1 G6 [44] 8 ts) λl r=>.ok (guM 5 [] A0 A0 [] l A0,r)
def a6q(ts:Lt):E Gu:=I3 (O0 ts) λn r=>if isM 5 [59] r then I3 (H1 C5 [59] 8 r.tail) λl r=>.ok (guM 7 n A0 A0 l [] A0,r)else .ok (guM 7 n A0 A0 [] [] A0,r)
abbrev PE(α:Type):=Except (Int×Nat) (α×Nat)
def J8{α β:Type}(r:PE α)(f:α->Nat->PE β):PE β:=match r with
 | .ok (x,i)=>f x i
 | .error e=>.error e
def F2{α β:Type}(r:E α)(i:Nat)(f:α->Lt->PE β):PE β:=match r with
 | .ok (x,ts)=>f x ts
 | .error e=>.error (e,i)
def D4{β:Type}(ts:Lt)(i:Nat)(f:Nat->PE β):PE β:=if ts.isEmpty then f (i+1)else .error (110,i)
def M1{β:Type}(k:Int)(s:B)(ts:Lt)(i:Nat)(f:Lt->PE β):PE β:=if isM k s ts then f ts.tail else .error (110,i)
section
variable (R:List Rw)
def H6(d:Int)(i:Nat):Bool:=match R[i]? with
 |some x=>x.depth==d
 |none=>false
def V3(d:Int)(i:Nat):Except (Int×Nat) (Lt):=match R[i]? with
 |none=>.error (110,i)
 |some x=>if(Go.Lx.lexO x.text).2.2≠0 then .error ((Go.Lx.lexO x.text).2.2,i)else if x.depth≠d then .error (110,i)else .ok (Go.Lx.lexO x.text).1
def a1k{β:Type}(d:Int)(i:Nat)(f:Lt->PE β):PE β:=match V3 R d i with
 | .ok ts=>f ts
 | .error e=>.error e
def a1m{β:Type}(d:Int)(k:Int)(s:B)(i:Nat)(f:Nat->PE β):PE β:=a1k R d i λts=>M1 k s ts i λr=>D4 r i f
def prM(k:Int)(nm:B)(ch:Ex)(tg ex:List Ex)(rep:Rp)(gl:List Gu)(ll:List Pr)(pn:List Int)(sp:Sp):Pr:=.mk k nm ch (sl tg) (sl ex) rep none 0 gl none 0 ll (sl pn) sp
def spM(k:Int)(ty:Ty)(names:List B)(e:Ex)(cs:Bool)(vs:List Vr)(fs:List Fo)(bl:List Pr):Sp:=.mk k ty (sl names) e cs (sl vs) (sl fs) none 0 bl
def a8V(g:Gu)(x:Pr):Gu:=.mk g.k g.name g.cond g.ch g.tg g.vl g.time none 0 [x]
variable (rec:Int->Bool->Nat->PE Pr)
def X7(row:Lt->E Gu)(least most:Nat)(d:Int):Nat->List Gu->Nat->PE (List Gu)
 |0,acc,i=>if acc.length<least then .error (110,i)else .ok (acc,i)
 |k+1,acc,i=>if acc.length<least\/(acc.length<most/\H6 R d i=true)then a1k R d i λts=>F2 (row ts) i λg r=>D4 r i λi=>J8 (rec (d+1) false i) λx i=>X7 row least most d k (acc++[a8V g x]) i
  else .ok (acc,i)
def U6(row:Lt->E Gu)(least most:Nat)(d:Int)(i:Nat):PE (List Gu):=X7 R rec row least most d (R.length-i) [] i
def a0i(d:Int):Nat->List Pr->Nat->PE (List Pr)
 |0,acc,i=>.ok (acc,i)
 |k+1,acc,i=>if H6 R d i then J8 (rec d false i) λx i=>a0i d k (acc++[x]) i else .ok (acc,i)
def b4n(k:Int)(ts:Lt)(i:Nat):PE Pr:=D4 ts i λi=>.ok (prM k [] A0 [] [] B0 [] [] [] B4,i)
def a2Q(k:Int)(d:Int)(ts:Lt)(i:Nat):PE Pr:=F2 (a8A ts) i λr ts=>D4 ts i λi=>
 if r.name≠[]then J8 (rec (d+1) false i) λx i=>.ok (prM k [] A0 [] [] r [] [x] [] B4,i)
 else J8 (a0i R rec (d+1) (R.length-i) [] i) λl i=>.ok (prM k [] A0 [] [] r [] l [] B4,i)
def a0B(k:Int)(row:Lt->E Gu)(d:Int)(ts:Lt)(i:Nat):PE Pr:=F2 (a8A ts) i λr ts=>D4 ts i λi=>J8 (U6 R rec row (if r.name≠[]then 1 else 0) (if r.name≠[]then 1 else 16) (d+1) i) λl i=>.ok (prM k [] A0 [] [] r l [] [] B4,i)
def c4J(d:Int)(ts:Lt)(i:Nat):PE Pr:=if isM 2 [80,65,82] ts then D4 ts.tail i λi=>J8 (rec (d+1) false i) λx i=>J8 (rec (d+1) false i) λy i=>.ok (prM 10 [] A0 [] [] B0 [] [x,y] [] B4,i)
 else M1 2 [65,76,84] ts i λr=>a0B R rec 13 a3D d r i
def c4I(d:Int)(ts:Lt)(i:Nat):PE Pr:=F2 (G6 ts) i λe r=>D4 r i λi=>J8 (U6 R rec a9u 0 16 (d+1) i) λl i=>.ok (prM 15 [] A0 [] [e] B0 l [] [] B4,i)
def b7n(d:Int)(ts:Lt)(i:Nat):PE Pr:=F2 (G6 ts) i λe r=>D4 r i λi=>J8 (rec (d+1) false i) λx i=>.ok (prM 16 [] A0 [] [e] B0 [] [x] [] B4,i)
def a4Y(ts:Lt):Option Int:=match ts with
 | [t]=>if t.kind=3/\0<=t.n/\t.n<8 then some t.n else none
 |_=>none
def O8(d:Int):Nat->List Int->List Pr->Nat->PE (List Int×List Pr)
 |0,ns,acc,i=>if acc.length=0 then .error (110,i)else .ok ((ns,acc),i)
 |k+1,ns,acc,i=>if acc.length=0\/(acc.length<8/\H6 R (d+1) i=true)then a1k R (d+1) i λts=>M1 2 [80,82,79,67,69,83,83,79,82] ts i λr=>match a4Y r with
  |some n=>J8 (rec (d+2) false (i+1)) λx i=>O8 d k (ns++[n]) (acc++[x]) i
  |none=>.error (110,i)
  else .ok ((ns,acc),i)
def a74(d:Int)(ts:Lt)(i:Nat):PE Pr:=M1 2 [80,65,82] ts i λr=>D4 r i λi=>J8 (O8 R rec d (R.length-i) [] [] i) λx i=>.ok (prM 11 [] A0 [] [] B0 [] x.2 x.1 B4,i)
def S6(d:Int)(ts:Lt)(i:Nat):PE Pr:=
 if(ts.headD Go.Ty.zeroK).kind=1/\isM 5 [40] ts.tail=true then F2 (O0 ts) i λn r=>F2 (brM G6 r) i λl r=>D4 r i λi=>.ok (prM 17 n A0 [] l B0 [] [] [] B4,i)
 else F2 (H1 C5 [44] 8 ts) i λf r=>
  if isM 5 [58,61] r then F2 (H1 G6 [44] 8 r.tail) i λl r=>D4 r i λi=>.ok (prM 3 [] A0 f l B0 [] [] [] B4,i)
  else if f.length>1 then .error (110,i)
  else if isM 5 [33] r then F2 (H1 G6 [59] 9 r.tail) i λl r=>D4 r i λi=>.ok (prM 5 [] (f.headD A0) [] l B0 [] [] [] B4,i)
  else M1 5 [63] r i λr=>
   if isM 2 [67,65,83,69] r then D4 r.tail i λi=>J8 (U6 R rec a6q 1 16 (d+1) i) λl i=>.ok (prM 7 [] (f.headD A0) [] [] B0 l [] [] B4,i)
   else if isM 2 [65,70,84,69,82] r then F2 (G6 r.tail) i λe r=>D4 r i λi=>.ok (prM 6 [] (f.headD A0) [] [e] B0 [] [] [] B4,i)
   else F2 (H1 C5 [59] 8 r) i λl r=>D4 r i λi=>.ok (prM 4 [] (f.headD A0) l [] B0 [] [] [] B4,i)
def vrM(tag:B)(l:List Int):Vr:=⟨tag,none,l.length,0,l⟩
def W7(ts:Lt):E Vr:=I3 (O0 ts) λn r=>if isM 5 [59] r then I3 (H1 S1 [59] 8 r.tail) λl r=>.ok (vrM n l,r)else .ok (vrM n [],r)
def U8(d:Int):Nat->List Vr->Nat->PE (List Vr)
 |0,acc,i=>if acc.length=0 then .error (110,i)else .ok (acc,i)
 |k+1,acc,i=>if acc.length=0\/H6 R (d+2) i=true then a1k R (d+2) i λts=>F2 (W7 ts) i λv r=>if Go.Ty.mayPr true (acc++[v])then D4 r i λi=>U8 d k (acc++[v]) i else .error (110,i)
  else .ok (acc,i)
def a4l(d:Int)(ts:Lt)(i:Nat):PE (Bool×List Vr):=
 if isM 2 [73,83] ts then F2 (H1 S1 [59] 8 ts.tail) i λl r=>M1 5 [58] r i λr=>D4 r i λi=>.ok ((false,[vrM [] l]),i)
 else D4 ts i λi=>a1m R (d+1) 2 [67,65,83,69] i λi=>J8 (U8 R d (R.length-i) [] i) λl i=>a1m R d 5 [58] i λi=>.ok ((true,l),i)
def a5i(s:Sp)(ts:Lt)(i:Nat):PE (Option Sp):=M1 5 [58] ts i λr=>if spP s then D4 r i λi=>.ok (some s,i)else .error (110,i)
def a2C(d:Int)(ts:Lt)(i:Nat):PE (Option Sp):=
 if isM 2 [80,82,79,84,79,67,79,76] ts then F2 (O0 ts.tail) i λn r=>J8 (a4l R d r i) λp i=>.ok (some (spM 4 Go.Ty.zeroT [n] A0 p.1 p.2 [] []),i)
 else if isM 2 [80,82,79,67] ts then F2 (O0 ts.tail) i λn r=>F2 (brM a0d r) i λfs r=>D4 r i λi=>J8 (rec (d+1) false i) λx i=>a1m R d 5 [58] i λi=>.ok (some (spM 5 Go.Ty.zeroT [n] A0 false [] fs [x]),i)
 else if isM 2 [86,65,76] ts then F2 (a1Y ts.tail) i λt r=>F2 (O0 r) i λn r=>M1 2 [73,83] r i λr=>F2 (G6 r) i λe r=>a5i (spM 2 t [n] e false [] [] []) r i
 else if isM 5 [91] ts||isM 2 [73,78,84] ts||isM 2 [66,89,84,69] ts||isM 2 [66,79,79,76] ts||isM 2 [67,72,65,78] ts||isM 2 [84,73,77,69,82] ts then F2 (a1Y ts) i λt r=>F2 (H1 O0 [44] 8 r) i λns r=>if isM 2 [73,83] r then F2 (C5 r.tail) i λe r=>a5i (spM 3 t ns e false [] [] []) r i else a5i (spM 1 t ns A0 false [] [] []) r i
 else .ok (none,i)
def a3c(s:B):Option (Int->Lt->Nat->PE Pr):=
 if s=[83,75,73,80]then some λ_ ts i=>b4n 1 ts i else if s=[83,84,79,80]then some λ_ ts i=>b4n 2 ts i
 else if s=[83,69,81]then some (a2Q R rec 8)else if s=[80,65,82]then some (a2Q R rec 9)
 else if s=[80,82,73]then some (c4J R rec)else if s=[65,76,84]then some (a0B R rec 12 a3D)else if s=[73,70]then some (a0B R rec 14 ifM)
 else if s=[67,65,83,69]then some (c4I R rec)else if s=[87,72,73,76,69]then some (b7n rec)else if s=[80,76,65,67,69,68]then some (a74 R rec)else none
def a1R(d:Int)(top:Bool)(ts:Lt)(i:Nat):PE Pr:=match ts with
 | []=>.error (110,i)
 |t::r=>match a3c R rec t.text with
  |some f=>if t.kind=2/\(top=true\/t.text≠[80,76,65,67,69,68])then f d r i else S6 R rec d ts i
  |none=>S6 R rec d ts i
def c0p(d:Int)(top:Bool)(i:Nat):PE Pr:=a1k R d i λts=>J8 (a2C R rec d ts i) λso i=>match so with
 |some s=>J8 (rec d top i) λx i=>.ok (prM 18 [] A0 [] [] B0 [] [x] [] s,i)
 |none=>a1R R rec d top ts i
end
def A4(R:List Rw):Nat->Int->Bool->Nat->PE Pr
 |0=>λ_ _ i=>.error (110,i)
 |n+1=>c0p R (A4 R n)
def a4X(R:List Rw):PE Pr:=J8 (A4 R R.length 0 true 0) λx i=>match R[i]? with
 |none=>.ok (x,i)
 |some y=>.error (if(Go.Lx.lexO y.text).2.2≠0 then(Go.Lx.lexO y.text).2.2 else 110,i)
def S3(R:List Rw):Pr×Nat×Int:=if Go.Ly.mayP R then(match a4X R with
 | .ok (x,_)=>(x,0,0)
 | .error (e,i)=>(prM 0 [] A0 [] [] B0 [] [] [] B4,i,e))else(prM 0 [] A0 [] [] B0 [] [] [] B4,0,2)
end
end Go.Sx
namespace Go.Lx
section
open Go.Ty
theorem b3F(s:B):(M4 s).2<=s.length:=by
 unfold M4;split
 ·exact qi _
 ·rename_i h
  have h1:1<=s.length:=by
   cases s with
   |nil=>exact absurd rfl h
   |cons a t=>simp
  split
  ·exact h1
  ·split
   ·exact qi _
   ·rename_i h2
    have h2:2<=s.length:=by simp at h2;omega
    split
    ·exact h2
    ·split
     ·exact qi _
     ·rename_i h4
      have h4:4<=s.length:=by simp at h4;omega
      split
      ·exact qi _
      ·exact h4
theorem b2K(r:B):(tok r).2<=r.length:=by
 have h0:=a4Q r;have h1:=a4Q (r.drop 1);have h2:=b3F (r.drop 1);have h3:(r.drop 1).length=r.length-1:=qx;cases r with
 |nil=>decide
 |cons c r=>
  simp only[qJ]at h0 h1 h2 h3⊢;unfold tok;split
  ·unfold a3C
   split
   ·exact h0
   ·split
    ·exact qi _
    ·exact h0
  ·split
   ·unfold b0o
    split
    ·exact qi _
    ·split
     ·exact qi _
     ·split
      ·exact qi _
      ·exact h0
   ·split
    ·unfold b1a
     split
     ·exact qi _
     ·split
      ·exact qi _
      ·show 1+run (List.drop 1 (c::r))<=_
       omega
    ·split
     ·unfold a0T
      split
      ·exact qi _
      ·rename_i h
       unfold noQ at h;simp only[Bool.not_eq_true,qA]at h;have:(M4 (List.drop 1 (c::r))).2≠(List.drop 1 (c::r)).length:=λe=>by
        have:=h.1.2;rw[e]at this;simp at this
       show(M4 (List.drop 1 (c::r))).2+2<=_;omega
     ·unfold a6X
      split
      ·rename_i h
       simp only[qa,qw]at h;exact h.1
      ·split
       ·show 1<=_
        omega
       ·exact qi _
def b0j(r:B):Nat->Tok×Nat
 |0=>(zeroK,0)
 |k+1=>if sym (r.take (k+1))then(⟨5,0,r.take (k+1),0⟩,k+1)else b0j r k
theorem c3t(r:B):a6X r=b0j r (min 2 r.length):=by
 match r with
 | []=>rfl
 | [a]=>rfl
 |a::b::s=>rw[show min 2 (a::b::s).length=2 by simp];unfold a6X b0j b0j b0j;simp
theorem V8:∀(n k1 k2:Nat)(r:B)(p:Nat),r.length<=n->n<=k1->n<=k2->a8z k1 r p=a8z k2 r p
 |_,k1,k2,[],p,_,_,_=>by cases k1<;>cases k2<;>rfl
 |0,_,_,c::r,p,h,_,_=>by simp at h
 |n+1,k1,k2,c::r,p,h,h1,h2=>by
  obtain⟨j1,rfl⟩:∃j,k1=j+1:=⟨k1-1,by omega⟩;obtain⟨j2,rfl⟩:∃j,k2=j+1:=⟨k2-1,by omega⟩;have hr:r.length<=n:=by simpa using h
  unfold a8z;rw[V8 n j1 j2 r (p+1) hr (by omega) (by omega)];by_cases hn:(tok (c::r)).2==0
  ·simp only[hn,if_true]
  ·have hn':(tok (c::r)).2≠0:=by simpa using hn
   rw[V8 n j1 j2 ((c::r).drop (tok (c::r)).2) (p+(tok (c::r)).2) (by rw[qx,qJ];omega) (by omega) (by omega)]
def lx(r:B)(p:Nat):Except Nat (Lt):=a8z r.length r p
def a6g(l:Lt):Except Nat (Lt)->Except Nat (Lt)
 | .ok m=>.ok (l++m)
 | .error e=>.error e
theorem b4p(x:Except Nat (Lt)):a6g [] x=x:=by cases x<;>rfl
theorem c3c(l m:Lt)(x:Except Nat (Lt)):a6g l (a6g m x)=a6g (l++m) x:=by
 cases x with
 |error e=>rfl
 |ok k=>simp[a6g]
theorem c0P(p:Nat):lx [] p=.ok []:=rfl
theorem b0y(r:B)(p:Nat):lx (32::r) p=lx r (p+1):=by show a8z (r.length+1) (32::r) p=_;unfold a8z;rw[if_pos (by decide)];rfl
theorem lx_bad{c:UInt8}{r:B}{p:Nat}(hc:c≠32)(hn:(tok (c::r)).2=0):lx (c::r) p=.error p:=by
 have e:((c.toNat:Int)==32)=false:=by
  cases h:(c.toNat:Int)==32 with
  |false=>rfl
  | true => exact absurd (UInt8.toNat.inj (by have := eq_of_beq h; have e : c.toNat = 32 := by exact_mod_cast this
                                              rw[e];rfl)) hc
 show(if(c.toNat:Int)==32 then _ else if(tok (c::r)).2==0 then Except.error p else _)=_;rw[e,hn];rfl
theorem lx_tok{c:UInt8}{r:B}{p:Nat}(hc:c≠32)(hn:(tok (c::r)).2≠0):lx (c::r) p=a6g [{ (tok (c::r)).1 with at_:=p }] (lx ((c::r).drop (tok (c::r)).2) (p+(tok (c::r)).2)):=by
 have e:((c.toNat:Int)==32)=false:=by
  cases h:(c.toNat:Int)==32 with
  |false=>rfl
  | true => exact absurd (UInt8.toNat.inj (by have := eq_of_beq h; have e : c.toNat = 32 := by exact_mod_cast this
                                              rw[e];rfl)) hc
 have e2:((tok (c::r)).2==0)=false:=by simpa using hn
 show(if(c.toNat:Int)==32 then _ else if(tok (c::r)).2==0 then Except.error p else match a8z r.length ((c::r).drop (tok (c::r)).2) (p+(tok (c::r)).2)with
  | .ok l=>.ok ({ (tok (c::r)).1 with at_:=p }::l)
  | .error e=>.error e)=_
 rw[e,e2];simp only[qp,if_false];rw[V8 ((c::r).drop (tok (c::r)).2).length r.length ((c::r).drop (tok (c::r)).2).length _ _ (qz _) (by rw[qx,qJ];omega) (qz _)];unfold lx;cases a8z ((c::r).drop (tok (c::r)).2).length ((c::r).drop (tok (c::r)).2) (p+(tok (c::r)).2)<;>rfl
def d0C:Except Nat (Lt)->Lt×Int×Int
 | .ok l=>(l,0,0)
 | .error a=>([],a,80)
theorem a2n{s:B}(h:decide ((s.length:Int)>256)=true):lexO s=([],0,3):=by unfold lexO;rw[h];rfl
theorem a4D{s:B}(h:decide ((s.length:Int)>256)=false):lexO s=d0C (lx s 0):=by unfold lexO lx;rw[h];cases a8z s.length s 0<;>rfl
theorem P9{s:B}{p:Nat}{c:UInt8}(h:s[p]?=some c):s.drop p=c::s.drop (p+1):=by have h1:p<s.length:=(qd.1 h).1;rw[qq h1,(qd.1 h).2]
theorem a9g{s:B}{p:Nat}{l:Lt}(h:s[p]?=some 32)(hJ:lx s 0=a6g l (lx (s.drop p) p)):lx s 0=a6g l (lx (s.drop (p+1)) (p+1)):=by rw[P9 h,b0y]at hJ;exact hJ
theorem b5a{s:B}{p:Nat}{c:UInt8}{l:Lt}(h:s[p]?=some c)(hc:c≠32)(hn:(tok (s.drop p)).2=0)(hJ:lx s 0=a6g l (lx (s.drop p) p)):lx s 0=.error p:=by rw[P9 h]at hn hJ;rw[lx_bad hc hn]at hJ;exact hJ
theorem b4t{s:B}{p:Nat}{c:UInt8}{l:Lt}(h:s[p]?=some c)(hc:c≠32)(hn:(tok (s.drop p)).2≠0)(hJ:lx s 0=a6g l (lx (s.drop p) p)) :
 lx s 0=a6g (l++[{ (tok (s.drop p)).1 with at_:=p }]) (lx (s.drop (p+(tok (s.drop p)).2)) (p+(tok (s.drop p)).2)):=by
 have e:=P9 h;rw[e]at hn hJ⊢;rw[lx_tok hc hn,c3c,<-e,List.drop_drop]at hJ;rw[e]at hJ;exact hJ
theorem a8Q(c:UInt8):((c.toNat:Int)==32)=(c==32):=by simpa using a0b (p:=λc=>((c.toNat:Int)==32)==(c==32)) (by decide +kernel) c
def a1p(u:Nat):Nat->B
 |0=>[]
 |i+1=>R4.getD (u/16^i%16) 0::a1p u i
theorem a6u(u:Nat):∀i,(a1p u i).length=i
 |0=>rfl
 |i+1=>by show(a1p u i).length+1=_;rw[a6u u i]
def a0g(v:Int)(hex:Bool):B:=if hex then 35::a1p (IntKind.u32.wrap v).toNat 8 else Lib.itoa v
def c8B:B:=[13,10,9,39,42]
def b4m:B:=[99,110,116,39,42]
def shI(v:Nat):Int:=Lib.indexByte c8B (UInt8.ofNat v)
def a6A(v:Nat):B:=
 if decide (shI v>=0)then[42,b4m.getD (shI v).toNat 0]
 else if decide ((v:Int)<32)||decide ((v:Int)>126)then[42,35,R4.getD (v/16) 0,R4.getD (v%16) 0]
 else[UInt8.ofNat v]
def a1Z(t:Tok):B:=if t.kind==3 then a0g t.n (decide (t.n<0))else if t.kind==4 then[39]++a6A t.n.toNat++[39]else t.text
def b2s(t:Tok)(s:B):Bool:=(t.kind==5)&&Lib.contains s t.text
def c0N:B:=[44,59,58,41,93]
def b89:B:=[40,91]
def gap(p t:Tok):Bool:=!b2s t c0N&&!b2s p b89&&((p.kind !=1)||!b2s t b89)
def b0Q:Option Tok->Tok->Bool
 |none,_=>false
 |some p,t=>gap p t
def sep(b:Bool):B:=if b then[32]else[]
def textL:Option Tok->Lt->B
 |_,[]=>[]
 |p,t::l=>sep (b0Q p t)++a1Z t++textL (some t) l
def a5m(p:Option Tok):Lt->Option Tok
 | []=>p
 |t::l=>a5m (some t) l
theorem a7S:∀(l m:Lt)(p:Option Tok),textL p (l++m)=textL p l++textL (a5m p l) m
 | [],m,p=>rfl
 |t::l,m,p=>by
  show sep (b0Q p t)++a1Z t++textL (some t) (l++m)=sep (b0Q p t)++a1Z t++textL (some t) l++textL (a5m (some t) l) m;rw[a7S l m (some t)];simp
theorem b0i:∀(l:Lt)(i:Nat)(p:Option Tok)(t:Tok),l[i]?=some t->a5m p (l.take (i+1))=some t
 | [],i,p,t,h=>by cases i<;>cases h
 |x::l,0,p,t,h=>by cases h;cases l<;>rfl
 |x::l,i+1,p,t,h=>by
  show a5m (some x) (l.take (i+1))=some t;exact b0i l i (some x) t (by simpa using h)
theorem b6b{l:Lt}{i:Nat}{t:Tok}(p:Option Tok)(h:l[i]?=some t):textL p (l.take (i+1))=textL p (l.take i)++(sep (b0Q (a5m p (l.take i)) t)++a1Z t):=by
 have h1:i<l.length:=(qd.1 h).1;have e:l.take (i+1)=l.take i++[t]:=by rw[List.take_add_one,h];rfl
 rw[e,a7S];show textL p (l.take i)++(sep _++a1Z t++[])=_;simp
def textO(l:Lt):B×Int:=
 if l.any λt=>!mayK t then([],2)else if decide (((textL none l).length:Int)>256)then([],3)else(textL none l,0)
theorem b8K{l:Lt}(h:l.any (λt=>!mayK t)=true):textO l=([],2):=by unfold textO;rw[h];rfl
theorem b5K{l:Lt}(h:l.any (λt=>!mayK t)=false){i:Nat}(hi:256<(textL none (l.take i)).length):textO l=([],3):=by
 unfold textO;rw[h];have:decide (((textL none l).length:Int)>256)=true:=by
  have e:textL none l=textL none (l.take i)++textL (a5m none (l.take i)) (l.drop i):=by rw[<-a7S,List.take_append_drop]
  rw[e,qh];simp;omega
 rw[this];rfl
theorem c1x{l:Lt}(h:l.any (λt=>!mayK t)=false)(hl:(textL none l).length<=256):textO l=(textL none l,0):=by
 unfold textO;rw[h];have:decide (((textL none l).length:Int)>256)=false:=by simp;omega
 rw[this];rfl
theorem b2h(v:Nat):(a6A v).length<=4:=by
 unfold a6A;split
 ·simp
 ·split<;>simp
theorem b2n:∀(n u:Nat),u<=n->(Lib.decDigits u).length<=u+1
 |n,u,h=>by
  unfold Lib.decDigits;split
  ·simp
  ·rename_i h10
   cases n with
   |zero=>omega
   |succ n=>have:=b2n n (u/10) (by omega);rw[qh,qO];omega
theorem b9v{v:Int}(b:Bool)(h:-2147483648<=v/\v<=2147483647):(a0g v b).length<=3000000000:=by
 unfold a0g;split
 ·rw[qJ,a6u];omega
 ·unfold Lib.itoa
  split
  ·have:=b2n _ v.natAbs (qz _);rw[qJ];omega
  ·have:=b2n _ v.toNat (qz _);omega
theorem c03{t:Tok}(h:-2147483648<=t.n/\t.n<=2147483647)(hs:t.text.length<=140737488355328):(a1Z t).length<=140737488355328:=by
 unfold a1Z;split
 ·have:=b9v (decide (t.n<0)) h;omega
 ·split
  ·have:=b2h t.n.toNat
   simp only[qh,qO];omega
  ·exact hs
theorem b5I(u:Nat)(i:Nat):a1p u (i+1)=R4.getD (u/16^i%16) 0::a1p u i:=rfl
end
end Go.Lx
section
namespace Go.Lx
open Go.Ty
set_option maxRecDepth 100000
def d00(t:Tok)(n:Nat)(c:UInt8):Bool:=
 if t.kind==4 then true else if t.kind==5 then(n==2)||!sym (t.text++[c])else !wch c
def stop(t:Tok)(n:Nat)(y:B):Prop:=∀c,y[n]?=some c->d00 t n c=true
theorem b6E{x:B}{t:Tok}{n:Nat}(h:a3C x=(t,n))(hn:n≠0):run x=n/\(t.kind=1\/t.kind=2)/\t.text=x.take n/\t.n=0/\t.at_=0:=by
 unfold a3C at h;split at h
 ·cases h;exact⟨rfl,.inr rfl,rfl,rfl,rfl⟩
 ·split at h
  ·cases h;exact absurd rfl hn
  ·cases h;exact⟨rfl,.inl rfl,rfl,rfl,rfl⟩
theorem c0F{x:B}{t:Tok}{n:Nat}(h:b0o x=(t,n))(hn:n≠0):run x=n/\t.kind=3/\t.text=[]/\t.at_=0:=by
 unfold b0o at h;split at h
 ·cases h;exact absurd rfl hn
 ·split at h
  ·cases h;exact absurd rfl hn
  ·split at h
   ·cases h;exact absurd rfl hn
   ·cases h;exact⟨rfl,rfl,rfl,rfl⟩
theorem c2K{x:B}{t:Tok}{n:Nat}(h:b1a x=(t,n))(hn:n≠0):1+run (x.drop 1)=n/\t.kind=3/\t.text=[]/\t.at_=0:=by
 unfold b1a at h;split at h
 ·cases h;exact absurd rfl hn
 ·split at h
  ·cases h;exact absurd rfl hn
  ·cases h;exact⟨rfl,rfl,rfl,rfl⟩
theorem b9N{x:B}{t:Tok}{n:Nat}(h:a0T x=(t,n))(hn:n≠0):noQ (x.drop 1) (M4 (x.drop 1)).2=false/\t=⟨4,0,[],(M4 (x.drop 1)).1⟩/\n=(M4 (x.drop 1)).2+2:=by
 unfold a0T at h;split at h
 ·cases h;exact absurd rfl hn
 ·rename_i hq;cases h;exact⟨by simpa using hq,rfl,rfl⟩
theorem b9k{x:B}{t:Tok}{n:Nat}(h:a6X x=(t,n))(hn:n≠0):t=⟨5,0,x.take n,0⟩/\sym (x.take n)=true/\n<=x.length/\(n=2\/n=1/\(2<=x.length->sym (x.take 2)=false)):=by
 unfold a6X at h;split at h
 ·rename_i hc
  simp only[qa,qw]at hc;cases h;exact⟨rfl,hc.2,hc.1,.inl rfl⟩
 ·rename_i h2
  split at h
  ·rename_i hc
   simp only[qa,qw]at hc;cases h;refine⟨rfl,hc.2,hc.1,.inr ⟨rfl,λhl=>?_⟩⟩;cases hb:sym (x.take 2)with
   |false=>rfl
   |true=>exact absurd (by rw[hb];simpa using hl) h2
  ·cases h;exact absurd rfl hn
set_option maxRecDepth 100000
theorem b3O{P:B->Prop}(h0:P [])(h1:∀r,P r->P (32::r))(h2:∀c r,c≠32->(tok (c::r)).2=0->P (c::r))
 (h3:∀c r,c≠32->(tok (c::r)).2≠0->P ((c::r).drop (tok (c::r)).2)->P (c::r)):∀r,P r:=by
 have key:∀n,∀r:B,r.length<=n->P r:=by
  intro n;induction n with
  |zero=>intro r hr;cases r with
   |nil=>exact h0
   |cons c r=>simp at hr
  |succ n ih=>
   intro r hr;cases r with
   |nil=>exact h0
   |cons c r=>
    by_cases hc:c=32
    ·subst hc;exact h1 r (ih r (by simpa using hr))
    ·by_cases hn:(tok (c::r)).2=0
     ·exact h2 c r hc hn
     ·exact h3 c r hc hn (ih _ (by rw[qx];simp only[qJ]at hr⊢;omega))
 exact λr=>key r.length r (qz _)
theorem b8n{l:Lt}{x:Except Nat (Lt)}{m:Lt}(h:a6g l x=.ok m):∃k,x=.ok k/\m=l++k:=by
 cases x with
 |error e=>cases h
 |ok k=>cases h;exact⟨k,rfl,rfl⟩
set_option maxRecDepth 100000
theorem b9M{t:Tok}(h:mayK t=true):(t.kind=1/\t.n=0/\name t.text=true)\/(t.kind=2/\t.n=0/\key t.text=true)\/(t.kind=5/\t.n=0/\sym t.text=true)\/(t.kind=4/\t.text=[]/\0<=t.n/\t.n<256)\/(t.kind=3/\t.text=[]):=by
 unfold mayK at h;split at h
 ·cases h
 ·split at h
  ·rename_i hk;simp at h hk;exact .inl ⟨hk,h.1,h.2⟩
  ·split at h
   ·rename_i hk;simp at h hk;exact .inr (.inl ⟨hk,h.1,h.2⟩)
   ·split at h
    ·rename_i hk;simp at h hk;exact .inr (.inr (.inl ⟨hk,h.1,h.2⟩))
    ·split at h
     ·rename_i hk;simp at h hk;exact .inr (.inr (.inr (.inl ⟨hk,h.1.1,h.1.2,h.2⟩)))
     ·simp at h;exact .inr (.inr (.inr (.inr h)))
set_option maxRecDepth 100000
def c9N:Option Tok->Nat->Lt->Lt
 |_,_,[]=>[]
 |p,q,t::l=>{ t with at_:=(q+(sep (b0Q p t)).length:Nat) }::c9N (some t) (q+(sep (b0Q p t)).length+(a1Z t).length) l
theorem b0K(v:Int):-2147483648<=IntKind.i32.wrap v/\IntKind.i32.wrap v<=2147483647:=by unfold IntKind.wrap;simp[IntKind.bits,IntKind.signed];omega
theorem c7Z(c:UInt8):chB a2N (esc c).toNat<256/\0<=chB a2N (esc c).toNat:=by unfold chB;have:=(a2N.getD (esc c).toNat 0).toNat_lt;omega
theorem b8B(s:B):0<=(M4 s).1/\(M4 s).1<256:=by
 unfold M4;split
 ·exact⟨z4 0,show(0:Int)<256 by decide⟩
 ·split
  ·have:=(s.getD 0 0).toNat_lt
   show 0<=chB s 0/\chB s 0<256;unfold chB;omega
  ·split
   ·exact⟨z4 0,show(0:Int)<256 by decide⟩
   ·split
    ·have:=c7Z (s.getD 1 0)
     exact⟨this.2,this.1⟩
    ·split
     ·exact⟨z4 0,show(0:Int)<256 by decide⟩
     ·split
      ·exact⟨z4 0,show(0:Int)<256 by decide⟩
      ·show 0<=(a1A _).1/\(a1A _).1<256
       unfold a1A;rw[a5B];cases hv:a4i 16 ((s.drop 2).take 2) 0 with
       |none=>exact⟨z4 0,show(0:Int)<256 by decide⟩
       |some v=>
        have hb:=a0I (by decide) a2s _ 0 v (by decide) hv;have hl:((s.drop 2).take 2).length<=2:=by rw[qV];omega
        have hp:(16:Int)^((s.drop 2).take 2).length<=16^2:=by exact_mod_cast z3 (by decide) hl
        simp only;omega
theorem c5K{c:UInt8}{r:B}{t:Tok}{n:Nat}(h:tok (c::r)=(t,n))(hn:n≠0){z:Int}(hz:0<=z/\z<256):mayK { t with at_:=z }=true/\(-2147483648<=t.n/\t.n<=2147483647):=by
 have h0:(decide (z<0)||decide (z>=256))=false:=by simp;omega
 unfold tok at h;rw[a2B]at h;split at h
 ·rename_i hl
  obtain⟨hr,_⟩:=b6E h hn;unfold a3C at h;split at h
  ·rename_i hk
   cases h;refine⟨?_,by show(-2147483648:Int)<=0/\(0:Int)<=2147483647;omega⟩;unfold mayK;simp only[h0,hk];rfl
  ·rename_i hk
   split at h
   ·cases h;exact absurd rfl hn
   ·rename_i h32
    cases h;refine⟨?_,by show(-2147483648:Int)<=0/\(0:Int)<=2147483647;omega⟩;unfold mayK;simp only[h0,b1Z hl (by simpa using hk)];simpa using h32
 ·split at h
  ·obtain⟨_,hk,htx,_⟩:=c0F h hn
   refine⟨?_,?_⟩
   ·unfold mayK
    simp only[h0,hk,htx];rfl
   ·unfold b0o at h
    split at h
    ·cases h;exact absurd rfl hn
    ·split at h
     ·cases h;exact absurd rfl hn
     ·split at h
      ·cases h;exact absurd rfl hn
      ·cases h;exact b0K _
  ·split at h
   ·obtain⟨_,hk,htx,_⟩:=c2K h hn
    refine⟨?_,?_⟩
    ·unfold mayK
     simp only[h0,hk,htx];rfl
    ·unfold b1a at h
     split at h
     ·cases h;exact absurd rfl hn
     ·split at h
      ·cases h;exact absurd rfl hn
      ·cases h;exact b0K _
   ·split at h
    ·obtain⟨_,htk,_⟩:=b9N h hn
     have hv:=b8B r;subst htk;refine⟨?_,by show -2147483648<=(M4 r).1/\(M4 r).1<=2147483647;omega⟩;unfold mayK;simp only[h0];simp;omega
    ·obtain⟨htk,hsy,_,_⟩:=b9k h hn
     subst htk;refine⟨?_,by show(-2147483648:Int)<=0/\(0:Int)<=2147483647;omega⟩;unfold mayK;simp only[h0,hsy];rfl
theorem c4p:∀s∈a9Y,s.length<=32:=by decide +kernel
theorem c4z:∀s∈a8t,s.length<=32:=by decide +kernel
theorem may_len{t:Tok}(h:mayK t=true):t.text.length<=32:=by
 rcases b9M h with⟨_,_,h3⟩|⟨_,_,h3⟩|⟨_,_,h3⟩|⟨_,h3,_⟩|⟨_,h3⟩
 ·unfold name at h3
  simp only[qa,qw]at h3;have:=h3.1.1.1.2;omega
 ·exact c4p _ ((a2v _ _).1 (by rw[key_eq]at h3;exact h3))
 ·exact c4z _ ((a2v _ _).1 (by rw[b2Z]at h3;exact h3))
 ·rw[h3];exact qi _
 ·rw[h3];exact qi _
theorem lx_may:∀(r:B)(p:Nat)(l:Lt),lx r p=.ok l->p+r.length<=256->∀x,x∈l->mayK x=true/\(-2147483648<=x.n/\x.n<=2147483647):=by
 refine b3O ?_ ?_ ?_ ?_
 ·intro p l h _ x hx;cases h;cases hx
 ·intro r ih p l h hp x hx
  rw[b0y]at h;exact ih _ _ h (by simp only[qJ]at hp;omega) x hx
 ·intro c r hc hn p l h
  rw[lx_bad hc hn]at h;cases h
 ·intro c r hc hn ih p l h hp x hx
  rw[lx_tok hc hn]at h;obtain⟨k,hk,rfl⟩:=b8n h;have hle:=b2K (c::r);rcases qY.1 hx with hx|hx
  ·cases qy.1 hx
   exact c5K (show tok (c::r)=((tok (c::r)).1,(tok (c::r)).2) from rfl) hn (z:=(p:Int)) (by simp only[qJ]at hp;omega)
  ·exact ih _ _ hk (by rw[qx];omega) x hx
set_option maxRecDepth 100000
theorem lx_len:∀(r:B)(p:Nat)(l:Lt),lx r p=.ok l->l.length<=r.length:=by
 refine b3O ?_ ?_ ?_ ?_
 ·intro p l h;cases h;exact qz _
 ·intro r ih p l h
  rw[b0y]at h;have:=ih _ _ h;simp only[qJ];omega
 ·intro c r hc hn p l h
  rw[lx_bad hc hn]at h;cases h
 ·intro c r hc hn ih p l h
  rw[lx_tok hc hn]at h;obtain⟨k,hk,rfl⟩:=b8n h;have:=ih _ _ hk;have hle:=b2K (c::r);rw[qx]at this;simp only[qh,qO];omega
theorem lexO_ok{s:B}{l:Lt}{z:Int}(h:lexO s=(l,z,0)):s.length<=256/\lx s 0=.ok l/\z=0:=by
 cases hd:decide ((s.length:Int)>256)with
 |true=>rw[a2n hd]at h;cases h
 |false=>
  rw[a4D hd]at h;cases hx:lx s 0 with
  |error e=>rw[hx]at h;cases h
  |ok m=>rw[hx]at h;cases h;have:=zz hd;exact⟨by omega,rfl,rfl⟩
theorem lexO_no{s:B}{l:Lt}{z e:Int}(h:lexO s=(l,z,e))(he:e≠0):l=[]:=by
 cases hd:decide ((s.length:Int)>256)with
 |true=>rw[a2n hd]at h;cases h;rfl
 |false=>
  rw[a4D hd]at h;cases hx:lx s 0 with
  |error e=>rw[hx]at h;cases h;rfl
  |ok m=>rw[hx]at h;cases h;exact absurd rfl he
end Go.Lx
end
namespace Go.Xp
section
open Go.Eng Go
open Go.Ty (Tok B1)
open Go.Lx (mayK)
set_option maxRecDepth 100000
def b6g(ts:Lt):Prop:=C1 ts≠D3 [91]
def c5v(ts:Lt):Prop:=opF (C1 ts) 22 1=0
theorem a0w{ins:B->B->Lt->a0E}{ts:Lt}{t:Tok}(h:C1 ts=t):R0 ins ts=if t.kind=3 then .ok (sx 1 0 0 t.n [] [],ts.tail)else if t.kind=4 then .ok (sx 2 0 0 t.n [] [],ts.tail)
 else if t=F7 [70,65,76,83,69]then .ok (sx 3 0 0 0 [] [],ts.tail)else if t=F7 [84,82,85,69]then .ok (sx 3 0 0 1 [] [],ts.tail)
 else if t.kind=1 then(if C1 ts.tail=D3 [91]then(match ins [91] [93] ts.tail with
  | .ok (x,r)=>.ok (sx 5 0 0 0 t.text [x],r)
  | .error e=>.error e)else .ok (sx 4 0 0 0 t.text [],ts.tail))
 else if t=D3 [40]then ins [40] [41] ts else .error 100:=by subst h;rfl
theorem a2P{ins:B->B->Lt->a0E}{ts:Lt}{t:Tok}(h:C1 ts=t):a1H ins ts=if t=F7 [83,73,90,69]then(if(C1 ts.tail).kind=1 then .ok (sx 9 0 0 0 (C1 ts.tail).text [],ts.tail.tail)else .error 100)
 else if O1 t≠0 then unQ (λx=>sx 8 0 (O1 t) 0 [] [x]) (R0 ins ts.tail)
 else if opF t 4 23≠0 then unQ (λx=>sx 6 (opF t 4 23) 0 0 [] [x]) (R0 ins ts.tail)
 else match R0 ins ts with
  | .error e=>.error e
  | .ok (a,r)=>if opF (C1 r) 22 1≠0 then unQ (λb=>sx 7 (opF (C1 r) 22 1) 0 0 [] [a,b]) (R0 ins r.tail)else .ok (a,r):=by subst h;rfl
inductive Dp:Nat->Ex->Prop
 |mk {n:Nat} {e:Ex} (h:∀x∈e.l,Dp n x):Dp (n+1) e
theorem Dp.part{n:Nat}{e x:Ex}(d:Dp (n+1) e)(hx:x∈e.l):Dp n x:=by cases d with|mk h=>exact h x hx
theorem Dp.pos{n:Nat}{e:Ex}(d:Dp n e):∃k,n=k+1:=by cases d;exact⟨_,rfl⟩
section
variable {e:Ex}(hF:Fine e)
include hF
end
abbrev RdO(e:Ex):Prop:=∀f,Dp (f+1) e->(par e.k=true->Dp f e)->∀rest,b6g rest->R0 (T9 f) (I9 e++rest)=.ok (B5 e,rest)
theorem z0:(-2147483648:Int)<=0/\(0:Int)<=2147483647:=by decide
set_option maxRecDepth 100000
def c8w(rd:Lt->a0E)(ok:Lt->Prop)(sz:Ex->Nat):Prop:=
 ∀ts x r,rd ts=.ok (x,r)->∃p,(ts=p++r/\1<=p.length)/\sz x<=p.length/\∀r',ok r'->rd (p++r')=.ok (x,r')
abbrev wl(x:Ex):Nat:=(C3 x).length
abbrev ol(x:Ex):Nat:=(I9 x).length
abbrev c7L(ins:B->B->Lt->a0E):Prop:=∀o s,s=[93]\/s=[41]->c8w (ins o s) (λ_=>True) (λx=>wl x+2)
theorem c9U(x:Ex):ol x<=wl x+2:=a3Z (par x.k,C3 x)
theorem c2N{x:Ex}(h:par x.k=false):ol x=wl x:=by unfold ol wl I9 a2a;rw[h];rfl
theorem c9W(x:Ex):wl x<=ol x:=by
 unfold wl ol I9 a2a;split
 ·simp only[qJ,qh]
  omega
 ·exact qz _
theorem b4B:C1 []=zeroT:=rfl
theorem a1w(s:B):zeroT≠F7 s:=λe=>by
 have hk:(0:Int)=(F7 s).kind:=congrArg Tok.kind e;rcases a1v s with h|h
 ·have:=hk.trans h;omega
 ·have:=hk.trans h;omega
theorem b4d{ins:B->B->Lt->a0E}:R0 ins []=.error 100:=by rw[a0w b4B,if_neg (by decide),if_neg (by decide),if_neg (a1w _),if_neg (a1w _),if_neg (by decide),if_neg (by decide)]
theorem c06{ins:B->B->Lt->a0E}(hi:c7L ins):c8w (R0 ins) b6g ol:=by
 intro ts x r h;cases ts with
 |nil=>rw[b4d]at h;cases h
 |cons t q=>
  obtain⟨u,hu⟩:∃u,∀q',C1 (t::q')=u:=⟨_,λ_=>rfl⟩;rw[a0w (hu q),zD]at h;have one:∀{x:Ex},wl x=1->par x.k=false->ol x<=[t].length:=λh1 h2=>by rw[c2N h2,h1];exact qz 1
  by_cases k3:u.kind=3
  ·rw[if_pos k3]at h
   cases h;exact⟨[t],⟨rfl,qz 1⟩,one rfl rfl,λr' _=>by rw[qT,a0w (hu r'),if_pos k3];rfl⟩
  rw[if_neg k3]at h;by_cases k4:u.kind=4
  ·rw[if_pos k4]at h
   cases h;exact⟨[t],⟨rfl,qz 1⟩,one rfl rfl,λr' _=>by rw[qT,a0w (hu r'),if_neg k3,if_pos k4];rfl⟩
  rw[if_neg k4]at h;by_cases f:u=F7 [70,65,76,83,69]
  ·rw[if_pos f]at h
   cases h;exact⟨[t],⟨rfl,qz 1⟩,one rfl rfl,λr' _=>by rw[qT,a0w (hu r'),if_neg k3,if_neg k4,if_pos f];rfl⟩
  rw[if_neg f]at h;by_cases g:u=F7 [84,82,85,69]
  ·rw[if_pos g]at h
   cases h;exact⟨[t],⟨rfl,qz 1⟩,one rfl rfl,λr' _=>by rw[qT,a0w (hu r'),if_neg k3,if_neg k4,if_neg f,if_pos g];rfl⟩
  rw[if_neg g]at h;by_cases k1:u.kind=1
  ·rw[if_pos k1]at h
   by_cases b:C1 q=D3 [91]
   ·rw[if_pos b]at h
    cases hq:ins [91] [93] q with
    |error e=>rw[hq]at h;cases h
    |ok w=>
     obtain⟨y,r1⟩:=w;rw[hq]at h;cases h;obtain⟨p,⟨hp,hp1⟩,hs,hf⟩:=hi [91] [93] (.inl rfl) q y _ hq;refine⟨t::p,⟨by rw[hp];rfl,zY (qi _)⟩,?_,λr' _=>?_⟩
     ·rw[c2N rfl]
      show(E8 u.text::D3 [91]::(C3 y++[D3 [93]])).length<=(t::p).length;simp only[qJ,qh,zQ];simp only[wl]at hs;omega
     ·have hb:C1 (p++r')=D3 [91]:=by
       rw[hp]at b;cases p with
       |nil=>exact absurd hp1 (by decide)
       |cons v w=>exact b
      rw[qN,a0w (hu _),if_neg k3,if_neg k4,if_neg f,if_neg g,if_pos k1,zD,if_pos hb,hf r' trivial]
   ·rw[if_neg b]at h
    cases h;exact⟨[t],⟨rfl,qz 1⟩,one rfl rfl,λr' hr=>by rw[qT,a0w (hu r'),if_neg k3,if_neg k4,if_neg f,if_neg g,if_pos k1,zD,if_neg hr]⟩
  rw[if_neg k1]at h;by_cases o:u=D3 [40]
  ·rw[if_pos o]at h
   obtain⟨p,⟨hp,hp1⟩,hs,hf⟩:=hi [40] [41] (.inr rfl) _ x r h;refine⟨p,⟨hp,hp1⟩,qr (c9U x) hs,λr' _=>?_⟩;cases p with
   |nil=>exact absurd hp1 (by decide)
   |cons v w=>have hv:v=t:=(List.cons.inj hp).1.symm;subst hv;rw[qN,a0w (hu _),if_neg k3,if_neg k4,if_neg f,if_neg g,if_neg k1,if_pos o];exact hf r' trivial
  ·rw[if_neg o]at h
   cases h
theorem b61{mk:Ex->Ex}{p:a0E}{x:Ex}{r:Lt}(h:unQ mk p=.ok (x,r)):∃y,p=.ok (y,r)/\x=mk y:=by
 cases p with
 |error e=>cases h
 |ok q=>obtain⟨y,z⟩:=q;cases h;exact⟨y,rfl,rfl⟩
theorem a7C:∀n o:Nat,opF zeroT n o=0
 |0,_=>rfl
 |n+1,o=>by
  unfold opF;rw[if_neg (show zeroT≠P8 o from a1w _)];exact a7C n (o+1)
theorem c3j{ins:B->B->Lt->a0E}:a1H ins []=.error 100:=by rw[a2P b4B,if_neg (a1w _),if_neg (by unfold O1;rw[if_neg (a1w _),if_neg (a1w _),if_neg (a1w _)];decide),if_neg (by rw[a7C];decide),b4d]
theorem c3g{p:Lt}(hp:1<=p.length)(r r':Lt):C1 (p++r)=C1 (p++r'):=by
 cases p with
 |nil=>exact absurd hp (by decide)
 |cons t q=>rfl
theorem b1R{ins:B->B->Lt->a0E}(hi:c7L ins):c8w (a1H ins) (λr=>b6g r/\c5v r) wl:=by
 have hO:=c06 hi;intro ts x r h;cases ts with
 |nil=>rw[c3j]at h;cases h
 |cons t q=>
  obtain⟨u,hu⟩:∃u,∀q',C1 (t::q')=u:=⟨_,λ_=>rfl⟩;rw[a2P (hu q),zD]at h;by_cases k1:u=F7 [83,73,90,69]
  ·rw[if_pos k1]at h
   by_cases k2:(C1 q).kind=1
   ·rw[if_pos k2]at h
    cases q with
    |nil=>cases k2
    |cons v w=>cases h;refine⟨[t,v],⟨rfl,zY (qi _)⟩,qz 2,λr' _=>?_⟩;rw[show[t,v]++r'=t::v::r' from rfl,a2P (hu _),zD,if_pos k1,if_pos (show(C1 (v::r')).kind=1 from k2)];rfl
   ·rw[if_neg k2]at h
    cases h
  rw[if_neg k1]at h;by_cases k2:O1 u≠0
  ·rw[if_pos k2]at h
   obtain⟨y,hy,rfl⟩:=b61 h;obtain⟨p,⟨hp,hp1⟩,hs,hf⟩:=hO q y r hy;refine⟨t::p,⟨by rw[hp];rfl,zY (qi _)⟩,?_,λr' hr=>?_⟩
   ·show(F7 (L3 (O1 u))::I9 y).length<=(t::p).length
    exact zY hs
   ·rw[qN,a2P (hu _),zD,if_neg k1,if_pos k2,hf r' hr.1]
    rfl
  rw[if_neg k2]at h;by_cases k3:opF u 4 23≠0
  ·rw[if_pos k3]at h
   obtain⟨y,hy,rfl⟩:=b61 h;obtain⟨p,⟨hp,hp1⟩,hs,hf⟩:=hO q y r hy;refine⟨t::p,⟨by rw[hp];rfl,zY (qi _)⟩,?_,λr' hr=>?_⟩
   ·show(P8 (opF u 4 23)::I9 y).length<=(t::p).length
    exact zY hs
   ·rw[qN,a2P (hu _),zD,if_neg k1,if_neg k2,if_pos k3,hf r' hr.1]
    rfl
  rw[if_neg k3]at h;cases hq:R0 ins (t::q)with
  |error e=>rw[hq]at h;cases h
  |ok w=>
   obtain⟨a,r1⟩:=w;rw[hq]at h;obtain⟨p,⟨hp,hp1⟩,hs,hf⟩:=hO _ a r1 hq;have hd:∀r',a1H ins (p++r')=match R0 ins (p++r')with
    | .error e=>.error e
    | .ok (a,r)=>if opF (C1 r) 22 1≠0 then unQ (λb=>sx 7 (opF (C1 r) 22 1) 0 0 [] [a,b]) (R0 ins r.tail)else .ok (a,r):=λr'=>by
    have hn:C1 (p++r')=u:=by rw[c3g hp1 r' r1,<-hp];exact hu q
    rw[a2P hn,if_neg k1,if_neg k2,if_neg k3]<;>rfl
   by_cases k4:opF (C1 r1) 22 1≠0
   ·replace h:=(if_pos k4).symm.trans h
    obtain⟨y,hy,rfl⟩:=b61 h;cases r1 with
    |nil=>exact absurd (a7C 22 1) k4
    |cons v w=>
     obtain⟨p2,⟨hp2,hp21⟩,hs2,hf2⟩:=hO w y r hy;have hv:∀w',C1 (v::w')=C1 (v::w):=λ_=>rfl
     have hb:∀w',b6g (v::w'):=λw' e=>by
      rw[hv,]at e;rw[e]at k4;exact k4 (by decide +kernel)
     refine⟨p++v::p2,⟨by rw[hp,hp2];simp,by rw[qh];omega⟩,?_,λr' hr=>?_⟩
     ·show(I9 a++P8 (opF (C1 (v::w)) 22 1)::I9 y).length<=_
      simp only[qh,qJ];simp only[ol]at hs hs2;omega
     ·rw[qj,qN,hd,hf _ (hb _)]
      show(if opF (C1 (v::(p2++r'))) 22 1≠0 then unQ (λb=>sx 7 (opF (C1 (v::(p2++r'))) 22 1) 0 0 [] [a,b]) (R0 ins (v::(p2++r')).tail)else .ok (a,v::(p2++r')))=_;rw[hv,if_pos k4,zD,hf2 r' hr.1];rfl
   ·replace h:=(if_neg k4).symm.trans h
    cases h;refine⟨p,⟨hp,hp1⟩,?_,λr' hr=>?_⟩
    ·exact qr (c9W _) hs
    ·rw[hd,hf r' hr.1]
     exact if_neg (λk=>k hr.2)
theorem b5x:∀f,c7L (T9 f)
 |0=>λ_ _ _ _ _ _ h=>by cases h
 |f+1=>λo s ho ts x r h=>by
  unfold T9 at h;by_cases k1:C1 ts=D3 o
  ·rw[if_pos k1]at h
   cases ts with
   |nil=>cases congrArg Tok.kind k1
   |cons t q=>
    rw[zD]at h;cases hq:a1H (T9 f) q with
    |error e=>rw[hq]at h;cases h
    |ok w=>
     obtain⟨y,r1⟩:=w;rw[hq]at h;by_cases k2:C1 r1=D3 s
     ·replace h:=(if_pos k2).symm.trans h
      cases r1 with
      |nil=>cases congrArg Tok.kind k2
      |cons v w=>
       cases h;obtain⟨p,⟨hp,hp1⟩,hs,hf⟩:=b1R (b5x f) q _ _ hq;have hv:∀w',C1 (v::w')=D3 s:=λ_=>k2
       refine⟨t::(p++[v]),⟨by rw[hp];simp,zY (qi _)⟩,?_,λr' _=>?_⟩
       ·simp only[qJ,qh,zQ]
        simp only[wl]at hs⊢;omega
       ·have hno:b6g (v::r')/\c5v (v::r'):=by
         unfold b6g c5v;rw[hv];rcases ho with rfl|rfl<;>exact⟨by decide +kernel,by decide +kernel⟩
        rw[show t::(p++[v])++r'=t::(p++v::r') by simp];unfold T9;rw[if_pos (show C1 (t::(p++v::r'))=D3 o from k1),zD,hf _ hno];exact if_pos k2
     ·replace h:=(if_neg k2).symm.trans h
      cases h
  ·rw[if_neg k1]at h
   cases h
abbrev Er(rd:Lt->a0E):Prop:=∀ts e,rd ts=.error e->e=100\/e=3
abbrev c7G(ins:B->B->Lt->a0E):Prop:=∀o s,Er (ins o s)
theorem c6c{ins:B->B->Lt->a0E}(hi:c7G ins):Er (R0 ins):=by
 intro ts e h;rw[a0w rfl]at h;repeat' split at h
 all_goals first|(cases h;done)|(cases h;rename_i h2;exact hi _ _ _ _ h2)|exact hi _ _ _ _ h|(cases h;exact .inl rfl)
theorem c8L{mk:Ex->Ex}{p:a0E}{e:Int}(h:unQ mk p=.error e):p=.error e:=by
 cases p with
 |error f=>cases h;rfl
 |ok q=>cases h
theorem b8c{ins:B->B->Lt->a0E}(hi:c7G ins):Er (a1H ins):=by
 intro ts e h;have hO:=c6c hi;rw[a2P rfl]at h;repeat' split at h
 all_goals first|(cases h;done)|exact hO _ _ (c8L h)|(cases h;rename_i h2;exact hO _ _ h2)|(cases h;exact .inl rfl)
theorem c0W:∀f,c7G (T9 f)
 |0=>λ_ _ _ _ h=>by cases h;exact .inr rfl
 |f+1=>λo s ts e h=>by
  unfold T9 at h;repeat' split at h
  all_goals first|(cases h;done)|(cases h;rename_i h2;exact b8c (c0W f) _ _ h2)|(cases h;exact .inl rfl)
theorem c0I{ts:Lt}{x:Ex}{k:Nat}(h:Q2 ts=.ok (x,k)):((1<=k/\k<=ts.length)/\K0 x=true)/\(C3 x).length<=k/\Q2 (ts.take k)=.ok (x,k):=by
 unfold Q2 at h;cases hq:b0u ts with
 |error e=>rw[hq]at h;cases h
 |ok w=>
  obtain⟨y,r⟩:=w;rw[hq]at h;by_cases hm:K0 y=true
  ·replace h:=(if_pos hm).symm.trans h
   cases h;obtain⟨p,⟨hp,hp1⟩,hs,hf⟩:=b1R (b5x 32) ts _ _ hq;have hl:ts.length-r.length=p.length:=by rw[hp,qh];omega
   have ht:ts.take (ts.length-r.length)=p:=by rw[hl,hp,List.take_left]
   have he:=hf [] ⟨by unfold b6g;decide +kernel,by unfold c5v;decide +kernel⟩;rw[zF]at he;refine⟨⟨⟨by omega,by omega⟩,hm⟩,by rw[hl];exact hs,?_⟩;rw[ht];unfold Q2 b0u;rw[he];show(if K0 _ then Except.ok (_,p.length-0)else .error 3)=_;rw[if_pos hm,hl,Nat.sub_zero]
  ·replace h:=(if_neg hm).symm.trans h
   cases h
theorem b4T{ts:Lt}{e:Int}(h:Q2 ts=.error e):e=100\/e=3:=by
 unfold Q2 at h;cases hq:b0u ts with
 |error f=>rw[hq]at h;cases h;exact b8c (c0W 32) ts _ hq
 |ok w=>
  obtain⟨y,r⟩:=w;rw[hq]at h;by_cases hm:K0 y=true
  ·replace h:=(if_pos hm).symm.trans h
   cases h
  ·replace h:=(if_neg hm).symm.trans h
   cases h;exact .inr rfl
theorem b00{ts:Lt}:R1 ts<=ts.length:=by
 unfold R1;cases h:Q2 ts with
 |error e=>exact qi _
 |ok w=>exact(c0I h).1.1.2
end
end Go.Xp
namespace Go.Ty
section
open Go.Lx
def wordR(k:Int):B:=if k==1 then wINT else if k==2 then wBYTE else wBOOL
theorem b3Q{k:Int}(h:is k=true):(wordS k).1=wordR k:=by rw[b5B]at h;unfold prim at h;simp at h;rcases h with(rfl|rfl)|rfl<;>rfl
theorem a9k{t:Ty}(h:may t=true)(h5:(t.kind==5)=true):dimT t++[I2 a2Z]=toks t:=by
 have e:t.kind=5:=by simpa using h5
 have e2:eqT t timer=true:=by
  unfold may at h;split at h
  ·cases h
  ·rw[e]at h
   exact h
 rw[eqT_iff]at e2;subst e2;rfl
theorem b0k{t:Ty}(h:may t=true)(h5:(t.kind==5)=false)(h4:(t.kind !=4)=true):dimT t++[I2 (wordR t.kind)]=toks t:=by
 have hk:is t.kind=true:=by
  unfold may at h;split at h
  ·cases h
  ·split at h
   ·assumption
   ·rw[eqT_iff]at h
    subst h;cases h5
 have h4':(t.kind==4)=false:=by simpa using h4
 unfold toks chanT lastT a5h;rw[h4'];simp only[qp,if_false,zF];have hk':(wordS t.kind).2.2=true:=hk;rw[hk',if_pos rfl,b3Q hk]
theorem a5r{t:Ty}(h:may t=true)(h4:(t.kind !=4)=false):(t.item=0/\name t.proto=true)\/(is t.item=true/\t.proto=[]):=by
 have h4':t.kind=4:=by simpa using h4
 unfold may at h;split at h
 ·cases h
 ·rw[h4']at h
  rw[if_neg (by decide),if_neg (by decide)]at h;split at h
  ·rename_i h0;exact .inl ⟨by simpa using h0,h⟩
  ·simp at h;exact .inr h
theorem a9H{t:Ty}(h:may t=true)(h4:(t.kind !=4)=false)(hp:(!(t.proto==[]))=true):dimT t++[I2 a1e,I2 cOF]++[⟨1,0,t.proto,0⟩]=toks t:=by
 have h4':(t.kind==4)=true:=by simpa using h4
 rcases a5r h h4 with⟨h0,_⟩|⟨_,h0⟩
 ·unfold toks chanT lastT a5h
  rw[h4',h0,hp];rfl
 ·rw[h0]at hp;cases hp
theorem b1w{t:Ty}(h:may t=true)(h4:(t.kind !=4)=false)(hp:(!(t.proto==[]))=false):dimT t++[I2 a1e,I2 cOF]++[I2 (wordR t.item)]=toks t:=by
 have h4':(t.kind==4)=true:=by simpa using h4
 rcases a5r h h4 with⟨_,h0⟩|⟨hi,_⟩
 ·have:t.proto=[]:=by simpa using hp
  rw[this]at h0;cases h0
 ·have hi':(wordS t.item).2.2=true:=hi
  unfold toks chanT lastT a5h;rw[h4',if_pos rfl,if_pos rfl,hi',if_pos rfl,b3Q hi]
end
end Go.Ty
