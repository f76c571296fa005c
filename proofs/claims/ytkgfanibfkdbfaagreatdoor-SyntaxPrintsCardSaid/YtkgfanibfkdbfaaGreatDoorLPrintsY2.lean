import Derived.Test.YtkgfanibfkdbfaaGreatDoorLPrintsY1
import Derived.RangeFuncRecord
import Derived.Scope
import Derived.Lib.AppendStr
import Derived.Lib.UnsafeStr
import Derived.Lib.Builder
import Derived.Laws.Externs
import Derived.Recover
import Derived.Defers
import Derived.KernelRfl
import Derived.Lib.IndexMore
import Derived.Lib.Bytealg
import Derived.Lib.IndexBytes
import Derived.Lib.SplitLaws
import Derived.Lib.Join
import Derived.Lib.TrimByte
import Derived.Lib.Repeat
import Derived.Lib.ItoaNum
section
namespace Go.Eng
open Go Go.RowKit
def b6K(P:Program)(l:Nat)(v:Value)(w:World)(R:Bool->World->Prop):Prop:=
 ∃fn tmps assign body,(Instr.yield l #[v]).run P w=.ok (.round l fn tmps assign body) w /\
  RoundIn (fen none) 0 P l fn tmps assign body w λe w'=>∃b,e=.returned (.bool b)/\R b w'
theorem b6K.mono{P:Program}{l:Nat}{v:Value}{w:World}{R R':Bool->World->Prop}(h:b6K P l v w R)(hr:∀b w',R b w'->R' b w'):b6K P l v w R':=by obtain⟨fn,tmps,assign,body,h1,h2⟩:=h;exact⟨fn,tmps,assign,body,h1,h2.mono λe w' ⟨b,e1,e2⟩=>⟨b,e1,hr b w' e2⟩⟩
section
variable {P:Program}{ops:Array Oper}{Q:Exit->Act->World->Prop}{n:Cx}{F:Fm}{h h':List Res}{m:View}{rest:List Oper}
variable {op:Op}{ty:TypeId}{pos:String}{after:Array Edge}{d:Nat}{v:Value}
theorem St.at{b:Nat}{o:Obj}{w:World}(s:St m h w)(hm:Res.pt b o∈h):w.heap[b]?=some o:=s.ok _ hm
theorem W4{eff:List Nat}{t':Tl}{hs hp:List Res}{i:Nat}{s:Tr}{x y:Operand}{t e:TypeId}{sz by_ l cap k c l':Nat}{a b:Option Addr}{xs ys zs:List Value}{hq:Value->List Res}
 (ho:ops[i]?=some ⟨some d,.call ⟨.builtin .append,#[x,y],#[t,t]⟩,ty,pos,after,none⟩) (he:eff.contains i=true) (E:EL P t e sz by_) (ex:Ev n F x (.slice a l cap)) (ey:Ev n F y (.slice b k c))
 (rd:Rd m (hp++hs) b k c sz ys) (h1:∀u∈ys,u.oneCell'=true) (hl:l+k=l') (hz:xs++ys=zs) (h63:l'<=9223372036854775807) (hbytes:l'*by_<=140737488355328)
 (u:∀v',Upd hp (.row (.slice a l cap) e sz l xs) (.row v' e sz l' zs) (hq v')) (hd:d<n.num) (kk:∀a' cap',SR P ops Q n eff t' hs s ((d,.slice a' l' cap')::F) (hq (.slice a' l' cap')) m) :
 SR P ops Q n eff t' hs (.op i s) F hp m:=by
 subst hl hz;exact SR.append ho he E ex ey rd h1 h63 hbytes u hd kk
structure WY(P:Program)(ops:Array Oper)(Q:Exit->Act->World->Prop)(n:Cx)(l:List Oper)(F:Fm)(h:List Res)(m:View):Prop where
 e:∀a w,Fr n F a->St m h w->wpListIn (fen n.ro) 0 P ops (a0F Q) l a w
theorem a9v{id:Nat}{l:List Oper}{G:List (Option Nat)}(hG:b0Y l=some G)(k:∀ops:Array Oper,(∀j t,G[j]?=some (some t)->a3m ops j=some t)->WY P ops Q n l F h m):WC P (.region id l.toArray false) Q n F h m:=.mk λa w ha hs=>
 wpIn_region_lit ((k _ λj t hj=>by
  have hG:=a9a hG;subst hG;unfold a3m;simp only[List.getElem?_map]at hj;simp only[List.getElem?_toArray];cases hl:l[j]? with
  |none=>simp[hl]at hj
  |some o=>simpa [hl]using hj).e a w ha hs)
theorem b5U{o:Oper}{a:Act}{w w':World}{K:Act->World->Prop}{v:Value}(hro:n.ro=none)(hr:(execOp a.eval o).run P w=.ok (.value v) w')(h:K (a.put o.dst v) w'):o.wpIn (fen n.ro) 0 P a w K Q:=by refine⟨λ_ _=>trivial,?_⟩;show o.uponIn (fen n.ro) 0 P a K Q ((o.semAt n.ro a.eval).run P w);rw[hro,Oper.semAt_none,hr];exact h
theorem WY.po(hro:n.ro=none)(hp:PO P ⟨some d,op,ty,pos,after,none⟩ n F h m v)(hn:d<n.num)(k:WY P ops Q n rest ((d,v)::F) h m) :
 WY P ops Q n (⟨some d,op,ty,pos,after,none⟩::rest) F h m:=.mk λa w ha hs=>by
 unfold wpListIn;rw[if_pos (show Region.wanted _ _=true from rfl)];exact b5U hro (hp a w ha hs) (k.e _ _ (ha.put hn v) hs)
def noPan(Q:Exit->Act->World->Prop):Exit->Act->World->Prop
 | .panic _,_,_=>False
 |e,a,w=>Q e a w
end
end Go.Eng
namespace Go.Eng
open Go Go.RowKit
section
variable {P:Program}{ops:Array Oper}{Q:Exit->Act->World->Prop}{n:Cx}{F:Fm}{h h':List Res}{m:View}{rest:List Oper}
variable {op:Op}{ty:TypeId}{pos:String}{after:Array Edge}{d:Nat}{v:Value}{dst:Option Nat}{g:Option (Nat×Bool)}
end
end Go.Eng
namespace Go.Eng
open Go Go.RowKit
section
variable {P:Program}{ops:Array Oper}{Q:Exit->Act->World->Prop}{n:Cx}{F:Fm}{m:View}
variable {ty:TypeId}{pos:String}{after:Array Edge}{d:Nat}{eff:List Nat}{hs hp:List Res}{i:Nat}{s:Tr}{t':Tl}
end
end Go.Eng
namespace Go.Eng
open Go Go.RowKit
def RX(m:View)(R:Value->View->List Res->Prop)(X:Value->List Res->Prop)(e:Ending)(w:World):Prop:=
 RQ m R e w\/∃v h',e=.panicked [{ v:=v,recovered:=false }]/\St m h' w/\X v h'
structure CX(P:Program)(f:FuncId)(args:List Value)(h:List Res)(m:View)(R:Value->View->List Res->Prop)(X:Value->List Res->Prop):Prop where
 enter:∀as w,(callFunc f as).run P w=.ok (.enter f as) w
 calls:∀w,St m h w->Calls P f args.toArray w (RX m R X)
section
variable {P:Program}{ops:Array Oper}{Q:Exit->Act->World->Prop}{n:Cx}{F:Fm}{h h':List Res}{m:View}{rest:List Oper}
variable {op:Op}{ty:TypeId}{pos:String}{after:Array Edge}{d:Nat}{v:Value}{dst:Option Nat}{g:Option (Nat×Bool)}
theorem CX.ofCT{f:FuncId}{args:List Value}{R:Value->View->List Res->Prop}{X:Value->List Res->Prop}(c:CT P f args h m R):CX P f args h m R X:=⟨c.enter,λw hs=>Calls.mono (c.calls w hs) λ_ _ q=>.inl q⟩
theorem CX.mono{f:FuncId}{args:List Value}{R R':Value->View->List Res->Prop}{X X':Value->List Res->Prop}(c:CX P f args h m R X)(hr:∀v m' h',R v m' h'->R' v m' h')(hx:∀v h',X v h'->X' v h'):CX P f args h m R' X':=
 ⟨c.enter,λw hs=>Calls.mono (c.calls w hs) λ_ _ q=>q.imp (λ⟨v,m',h',e,a,b,r⟩=>⟨v,m',h',e,a,b,hr _ _ _ r⟩) λ⟨v,h',e,s,x⟩=>⟨v,h',e,s,hx _ _ x⟩⟩
theorem CX.body{f:FuncId}{args:List Value}{R:Value->View->List Res->Prop}{X:Value->List Res->Prop}{fn:Func}{c:Code}{F0:Fm}{N:Nat}(he:∀as w,(callFunc f as).run P w=.ok (.enter f as) w)
 (hf:P.funcs[f]?=some fn) (hb:fn.body=some c) (hN:fn.ntmps=N) (hl:args.length<=N) (hF:a3v 0 args=some F0) (k:WC P c (bodyPost P fn (RX m R X)) ⟨N,none,[]⟩ F0 h m):CX P f args h m R X:=by
 have hF:=a5y hF;subst hF hN;exact⟨he,λw hs=>calls_of_wp hf hb (wpIn_wide.1 (wpIn_mono (k.e _ w (Fr.enter args fn.ntmps hl) hs) λ_ _ _ q=>a4X q))⟩
theorem toX{fn:Func}{ex:Exit}{m0:View}{R:Value->View->List Res->Prop}{X:Value->List Res->Prop}(hex:ex=.ret\/ex=.normal)(k:∀a w,Fr n F a->St m h w->bodyPost P fn (RQ m0 R) ex a w) :
 ∀a w,Fr n F a->St m h w->bodyPost P fn (RX m0 R X) ex a w:=λa w ha hs=>by
 rcases hex with rfl|rfl
 ·obtain⟨h1,v,h2,h3⟩:=k a w ha hs
  exact⟨h1,v,h2,.inl h3⟩
 ·obtain⟨h1,v,h2,h3⟩:=k a w ha hs
  exact⟨h1,v,h2,.inl h3⟩
theorem a2R{fn:Func}{m0:View}{R:Value->View->List Res->Prop}{X:Value->List Res->Prop}(h':List Res)(hle:m0.le m)(hd:h'.Sublist h)(hX:X v h')(hds:n.ds=[]:=by rfl) :
 ∀a w,Fr n F a->St m h w->bodyPost P fn (RX m0 R X) (.panic [{ v:=v,recovered:=false }]) a w:=λ_ _ ha hs=>
 ⟨ha.d.trans hds,.inr ⟨v,h',rfl,(hs.sub hd).back hle,hX⟩⟩
theorem WL.panic{x:Operand}{t:TypeId}{u:Value}(ex:Ev n F x (.iface t u))(k:∀a w,Fr n F a->St m h w->Q (.panic [{ v:=.iface t u,recovered:=false }]) a w) :
 WL P ops Q n (⟨dst,.panic x,ty,pos,after,none⟩::rest) F h m:=.mk λa w ha hs=>by
 refine J4 rfl ?_;unfold Oper.wp;have hr:(execOp a.eval ⟨dst,.panic x,ty,pos,after,none⟩).run P w=.halt (.panic (.iface t u)) w:=by simp[execOp,ex a ha];rfl
 rw[hr];exact k a w ha hs
theorem A1{f:Operand}{args:List Operand}{tys:Array TypeId}{vs first cap:List Value}{q:FuncId}{R:Value->List Res->Prop}{X:Value->List Res->Prop}(ef:Ev n F f (.func (.func q) first.toArray cap.toArray))(ea:Evs n F args vs)
 (c:CX P q (first++vs++cap) h m (λv _ h'=>R v h') X) (hd:d<n.num) (kx:∀v h',X v h'->∀a w,Fr n F a->St m h' w->Q (.panic [{ v:=v,recovered:=false }]) a w) (k:∀v h',R v h'->WL P ops Q n rest ((d,v)::F) h' m) :
 WL P ops Q n (⟨some d,.call ⟨.value f,args.toArray,tys⟩,ty,pos,after,none⟩::rest) F h m:=.mk λa w ha hs=>by
 refine J4 rfl ?_;unfold Oper.wp;rw[a01 ha ef ea c.enter];refine Calls.mono (c.calls w hs) ?_;rintro e w' (⟨v,m',h',rfl,hle,hst,hR⟩|⟨v,h',rfl,hst,hX⟩)
 ·exact k v h' hR _ _ (ha.put hd v) (hst.back hle)
 ·exact kx v h' hX a w' ha hst
theorem a1M{eff:List Nat}{t:Tl}{hs hp:List Res}{i:Nat}{s:Tr}{f:Operand}{args:List Operand}{tys:Array TypeId}{vs first cap:List Value}{q:FuncId}{R:Value->List Res->Prop}{X:List Res->Value->List Res->Prop}
 (ho:ops[i]?=some ⟨some d,.call ⟨.value f,args.toArray,tys⟩,ty,pos,after,none⟩) (he:eff.contains i=true) (ef:Ev n F f (.func (.func q) first.toArray cap.toArray)) (ea:Evs n F args vs)
 (c:∀fr,CX P q (first++vs++cap) (hp++(fr++hs)) m (λv _ h'=>∃hp',h'=hp'++(fr++hs)/\R v hp') (X fr)) (hd:d<n.num)
 (kx:∀fr v h',X fr v h'->∀a w,Fr n [] a->St m h' w->Q (.panic [{ v:=v,recovered:=false }]) a w) (k:∀v hp',R v hp'->SR P ops Q n eff t hs s ((d,v)::F) hp' m) :
 SR P ops Q n eff t hs (.op i s) F hp m:=⟨_,ho,λx hx=>by cases hx;exact hd,by
 rw[he];refine⟨λfr a w ha st=>⟨λ_=>?_,λh=>by simp[Region.wanted]at h⟩⟩;rw[a01 ha ef ea (c fr).enter];have hpm:(fr++(hp++hs)).Perm (hp++(fr++hs)):=by rw[<-List.append_assoc,<-List.append_assoc];exact List.perm_append_comm.append_right hs
 refine Calls.mono ((c fr).calls w (st.perm hpm)) ?_;rintro e w' (⟨v,m',h',rfl,hle,hst,hp',rfl,hR⟩|⟨v,h',rfl,hst,hX⟩)
 ·refine .inl ⟨v,rfl,m,hp',View.le.refl m,(hst.back hle).perm ?_,nofun,(k v hp' hR).e⟩
  rw[<-List.append_assoc,<-List.append_assoc];exact List.perm_append_comm.append_right hs
 ·exact .inr ⟨_,rfl,λa' ha'=>kx fr v h' hX a' w' ha' hst⟩⟩
theorem a0h{x:Operand}{t:TypeId}{fs:Array Field}(ht:P.underlying t=some (.struct fs))(ex:Ev n F x v):PO P ⟨dst,.makeInterface t x,ty,pos,after,g⟩ n F h m (.iface t v):=.mk λa w ha _=>by
 simp[execOp,ex a ha,Instr.makeInterface,run_underlying ht]
theorem a4N{x:Operand}{t s:TypeId}{fs:Array Field}(ht:P.underlying s=some (.struct fs))(ex:Ev n F x (.iface s v)):PO P ⟨dst,.typeAssert x t s true,ty,pos,after,g⟩ n F h m (.tuple #[v,.bool true]):=.mk λa w ha _=>by
 have h1:(Instr.typeAssert (.iface s v) t s true).run P w=.ok (.tuple #[v,.bool true]) w:=by simp[Instr.typeAssert,run_underlying ht]
 simp[execOp,ex a ha,h1]
theorem b02{x y:Operand}{t t':TypeId}{ms:Array (String×TypeId)}(ht:P.underlying t=some (.interface ms))(ex:Ev n F x .nilIface)(ey:y=.const .nilIface) :
 PO P ⟨dst,.binOp .neq t x y t',ty,pos,after,g⟩ n F h m (.bool false):=.mk λb w ha _=>by
 subst ey;have h1:∀d,(Op.equalIn (d+1) t .nilIface .nilIface).run P w=.ok true w:=λd=>by
  simp[Op.equalIn,run_underlying ht]
 have h2:(Op.equal t .nilIface .nilIface).run P w=.ok true w:=h1 9999;have h3:(eqGuard .neq t x (.const .nilIface) .nilIface .nilIface).run P w=.ok () w:=by simp[eqGuard]
 have h4:b.eval (.const .nilIface)=.nilIface:=rfl;simp[execOp,ex b ha,h4,binOp,h2,h3]
theorem b0Q{x y:Operand}{t t' s:TypeId}{ms:Array (String×TypeId)}{u:Value}(ht:P.underlying t=some (.interface ms))(ex:Ev n F x (.iface s u))(ey:y=.const .nilIface) :
 PO P ⟨dst,.binOp .neq t x y t',ty,pos,after,g⟩ n F h m (.bool true):=.mk λb w ha _=>by
 subst ey;have h1:∀d,(Op.equalIn (d+1) t (.iface s u) .nilIface).run P w=.ok false w:=λd=>by
  simp[Op.equalIn,run_underlying ht]
 have h2:(Op.equal t (.iface s u) .nilIface).run P w=.ok false w:=h1 9999;have h3:(eqGuard .neq t x (.const .nilIface) (.iface s u) .nilIface).run P w=.ok () w:=by simp[eqGuard]
 have h4:b.eval (.const .nilIface)=.nilIface:=rfl;simp[execOp,ex b ha,h4,binOp,h2,h3]
end
end Go.Eng
namespace Go.Eng
open Go Go.RowKit
def b0X(q:FuncId)(cap:List Value):Deferred:={ target:=.fn (.func q) cap.toArray,args:=#[] }
section
variable {P:Program}{ops:Array Oper}{Q:Exit->Act->World->Prop}{n:Cx}{F:Fm}{h h':List Res}{m:View}{rest:List Oper}
variable {op:Op}{ty:TypeId}{pos:String}{after:Array Edge}{d:Nat}{v:Value}{dst:Option Nat}{g:Option (Nat×Bool)}
theorem WY.defer{f:Operand}{tys:Array TypeId}{q:FuncId}{cap:List Value}(hro:n.ro=none)(ef:Ev n F f (.func (.func q) #[] cap.toArray))
 (k:∀a w,Fr { n with ds:=b0X q cap::n.ds } F a->St m h w->Q .normal a w) :
 WY P ops Q n [⟨none,.defer ⟨.value f,#[],tys⟩,ty,pos,after,none⟩] F h m:=.mk λa w ha hs=>by
 unfold wpListIn;rw[if_pos (show Region.wanted _ _=true from rfl)];refine⟨λ_ _=>trivial,?_⟩;show Oper.uponIn (fen n.ro) 0 P _ a _ (a0F Q) ((Oper.semAt n.ro a.eval _).run P w);rw[hro,Oper.semAt_none];have hr:(execOp a.eval ⟨none,.defer ⟨.value f,#[],tys⟩,ty,pos,after,none⟩).run P w=.ok (.defer (b0X q cap)) w:=by simp[execOp,resolve,ef a ha,Deferred.ofValue,b0X]
 rw[hr];exact k _ w ⟨by show b0X q cap::a.defers=_;rw[ha.d],by simpa [Act.put]using ha.sz,λt v ht=>by simpa [Act.put]using ha.get t v ht⟩ hs
theorem CT.bodyD{f:FuncId}{args:List Value}{R:Value->View->List Res->Prop}{fn:Func}{c:Code}{F0:Fm}{N:Nat}(he:∀as w,(callFunc f as).run P w=.ok (.enter f as) w)
 (hf:P.funcs[f]?=some fn) (hb:fn.body=some c) (hN:fn.ntmps=N) (hl:args.length<=N) (hF:a3v 0 args=some F0) (k:WC P c (bodyPostD P fn (RQ m R)) ⟨N,none,[]⟩ F0 h m):CT P f args h m R:=by
 have hF:=a5y hF;subst hF hN;exact⟨he,λw hs=>calls_of_wp_defers hf hb (wpIn_wide.1 (wpIn_mono (k.e _ w (Fr.enter args fn.ntmps hl) hs) λ_ _ _ q=>a4X q))⟩
def b0Z(P:Program)(q:FuncId)(cap:List Value)(u:FrameMode)(m:View)(h h2:List Res):Prop:=
 ∀w,St m h w->CallsD P q cap.toArray u w λe u' w'=>(∃v,e=.returned v)/\settle u'=.returning/\St m h2 w'
theorem b3b{fn:Func}{tmps:Array Value}{R:Ending->World->Prop}{q:FuncId}{cap:List Value}{u:FrameMode}{h2:List Res}{w:World}(he:∀as w,(callFunc q as).run P w=.ok (.enter q as) w)(hu:u≠.run)(hd:b0Z P q cap u m h h2)(hs:St m h w)
 (hr:∀w',St m h2 w'->∃v,(results fn tmps).run P w'=.ok v w'/\R (.returned v) w'):Leaves P fn tmps R [b0X q cap] u w:=by
 refine leaves_cons hu (f:=q) (args:=cap.toArray) (by simp[invoke,he]) ((hd w hs).mono ?_);rintro e u' w' ⟨⟨v,rfl⟩,hset,hs'⟩;show Leaves P fn tmps R [] (settle u') w';rw[hset];exact hr w' hs'
theorem c6D{fn:Func}{ex:Exit}{m0:View}{R:Value->View->List Res->Prop}{r r' r'':ResultVar}{v v' v'':Value}{q:FuncId}{cap:List Value}(hex:ex=.ret\/ex=.normal)(hds:n.ds=[b0X q cap])(he:∀as w,(callFunc q as).run P w=.ok (.enter q as) w)
 (hd:b0Z P q cap .returning m h h) (hfn:fn.results=#[r,r',r'']) (x1:RV P n F h m r v) (x2:RV P n F h m r' v') (x3:RV P n F h m r'' v'') (hle:m0.le m) (hsub:h'.Sublist h) (hR:R (.tuple #[v,v',v'']) m h') :
 ∀a w,Fr n F a->St m h w->bodyPostD P fn (RQ m0 R) ex a w:=λa w ha hs=>by
 have key:Leaves P fn a.tmps (RQ m0 R) a.defers .returning w:=by
  rw[ha.d,hds];refine b3b he (by simp) hd hs λw' hs'=>⟨.tuple #[v,v',v''],?_,_,m,h',rfl,hle,hs'.sub hsub,hR⟩
  have h1:=x1.e a w' ha hs';have h2:=x2.e a w' ha hs';have h3:=x3.e a w' ha hs';simp[a0O,hfn,h1,h2,h3]
 rcases hex with rfl|rfl<;>exact key
theorem c8N{fn:Func}{m0:View}{R:Value->View->List Res->Prop}{r r' r'':ResultVar}{v v' v'' u:Value}{q:FuncId}{cap:List Value}{h2:List Res}(hds:n.ds=[b0X q cap])(he:∀as w,(callFunc q as).run P w=.ok (.enter q as) w)
 (hd:b0Z P q cap (.panicking [{ v:=u,recovered:=false }]) m h h2) (hfn:fn.results=#[r,r',r'']) (x1:RV P n F h2 m r v) (x2:RV P n F h2 m r' v') (x3:RV P n F h2 m r'' v'') (hle:m0.le m) (hsub:h'.Sublist h2) (hR:R (.tuple #[v,v',v'']) m h') :
 ∀a w,Fr n F a->St m h w->bodyPostD P fn (RQ m0 R) (.panic [{ v:=u,recovered:=false }]) a w:=λa w ha hs=>by
 show Leaves P fn a.tmps (RQ m0 R) a.defers (.panicking [{ v:=u,recovered:=false }]) w;rw[ha.d,hds];refine b3b he (by simp) hd hs λw' hs'=>⟨.tuple #[v,v',v''],?_,_,m,h',rfl,hle,hs'.sub hsub,hR⟩
 have h1:=x1.e a w' ha hs';have h2:=x2.e a w' ha hs';have h3:=x3.e a w' ha hs';simp[a0O,hfn,h1,h2,h3]
def c7S(P:Program)(fn:Func)(m:View)(h2:List Res):Exit->Act->World->Prop:=λe a w=>(e=.normal\/e=.ret)/\a.defers=[]/\(∃v,(results fn a.tmps).run P w=.ok v w)/\St m h2 w
theorem a8O{fn:Func}{ex:Exit}{h2:List Res}(hex:ex=.ret\/ex=.normal)(hfn:fn.results=#[])(hd:h2.Sublist h)(hds:n.ds=[]:=by rfl):∀a w,Fr n F a->St m h w->c7S P fn m h2 ex a w:=λa w ha hs=>⟨hex.symm,ha.d.trans hds,⟨.tuple #[],by simp[results,hfn]⟩,hs.sub hd⟩
theorem c3m{fn:Func}{c0:Frame}{cs:List Frame}{u2:FrameMode}{h2:List Res}(hset:settle u2=.returning){e:Exit}{a:Act}{w:World}(q:c7S P fn m h2 e a w) :
 bodyPostS P fn c0 cs (λe u' w'=>(∃v,e=.returned v)/\settle u'=.returning/\St m h2 w') e a ({ c0 with mode:=u2 }::cs) w:=by
 obtain⟨he,h1,⟨v,h3⟩,h4⟩:=q;rcases he with rfl|rfl<;>exact⟨h1,u2,rfl,v,h3,⟨v,rfl⟩,hset,h4⟩
theorem c2a{Q:Exit->Act->List Frame->World->Prop}{i:Nat}{l:List Nat}{o:Oper}{a:Act}{cs:List Frame}{w:World}(ho:ops[i]?=some o)(hw:Region.wanted o (yielded ops a.tmps)=true)(hr:(execOp a.eval o).run P w=.ok .recover w)
 (h1:∀v cs',recoverD cs=some (v,cs')->wpOpsS P ops Q l (a.put o.dst v) cs' w) (h2:recoverD cs=none->wpOpsS P ops Q l (a.put o.dst .nilIface) cs w):wpOpsS P ops Q (i::l) a cs w:=by
 unfold wpOpsS;simp only[ho];rw[if_pos hw,hr];simp only;split
 ·rename_i v cs' e
  exact h1 v cs' e
 ·rename_i e
  exact h2 e
theorem b5A{Q:Exit->Act->List Frame->World->Prop}{i:Nat}{l:List Nat}{o:Oper}{a:Act}{cs:List Frame}{w:World}{v:Value}(ho:ops[i]?=some o)(hw:Region.wanted o (yielded ops a.tmps)=true)(hr:(execOp a.eval o).run P w=.ok (.value v) w)
 (h1:wpOpsS P ops Q l (a.put o.dst v) cs w):wpOpsS P ops Q (i::l) a cs w:=by
 unfold wpOpsS;simp only[ho];rw[if_pos hw,hr];exact h1
theorem a8M{q:FuncId}{cap:List Value}{fn:Func}{l:List Oper}{id dr d2:Nat}{t1 t2:TypeId}{p1 p2:String}{a1 a2:Array Edge}{y:Code}{u u2:FrameMode}{r:Value}{N:Nat}{F0:Fm}{h2:List Res}(hf:P.funcs[q]?=some fn)(hb:fn.body=some (.seq (.region id l.toArray false) y))
 (hl0:l=[⟨some dr,.call ⟨.builtin .recover,#[],#[]⟩,t1,p1,a1,none⟩,⟨some d2,.assign (.tmp dr),t2,p2,a2,none⟩]) (hN:fn.ntmps=N) (hl:cap.length<=N) (hF:a3v 0 cap=some F0) (hdr:dr<N) (hd2:d2<N)
 (hrec:∀(c0:Frame) cs,c0.mode=u->(recoverD (c0::cs)=some (r,{ c0 with mode:=u2 }::cs))\/(recoverD (c0::cs)=none/\r=.nilIface/\u2=u)) (hset:settle u2=.returning)
 (k:WC P y (c7S P fn m h2) ⟨N,none,[]⟩ ((d2,r)::(dr,r)::F0) h m):b0Z P q cap u m h h2:=λw hs=>by
 have hF:=a5y hF;subst hF hN hl0;refine callsD_of_wpS hf hb λc0 cs hu=>wpS_seq (wpS_region ?_)
 have fr0:=Fr.enter cap fn.ntmps hl;have fr1:=fr0.put hdr r;have fr2:=fr1.put hd2 r;have fin:∀cs',cs'={ c0 with mode:=u2 }::cs->y.wpS P (bodyPostS P fn c0 cs (λe u' w'=>(∃v,e=.returned v)/\settle u'=.returning/\St m h2 w')) _ cs' w:=λcs' e=>by
  subst e;exact wpS_of_wp (wp_mono (wpIn_wide.1 (k.e _ w fr2 hs)) λe a' w' q=>c3m hset (a4X q))
 have hx:∀(a:Act),(execOp a.eval ⟨some dr,.call ⟨.builtin .recover,#[],#[]⟩,t1,p1,a1,none⟩).run P w=.ok .recover w:=λa=>by
  simp[execOp,resolve,invoke,builtin]
 have hy:∀(a:Act),a.tmps[dr]?=some r->(execOp a.eval ⟨some d2,.assign (.tmp dr),t2,p2,a2,none⟩).run P w=.ok (.value r) w:=λa h=>by
  simp[execOp,Act.eval,h]
 have hget:=fr1.get dr r (by simp[look]);show wpOpsS P _ _ [0,1] _ (c0::cs) w;refine c2a rfl rfl (hx _) (λv cs' e=>?_) (λe=>?_)
 ·rcases hrec c0 cs hu with h1|⟨h1,_⟩
  ·rw[h1]at e
   cases e;exact b5A rfl rfl (hy _ hget) (fin _ rfl)
  ·rw[h1]at e
   cases e
 ·rcases hrec c0 cs hu with h1|⟨_,rfl,rfl⟩
  ·rw[h1]at e
   cases e
  ·exact b5A rfl rfl (hy _ hget) (fin _ (by rw[<-hu]))
theorem b5a{u:FrameMode}(hu:u=.returning)(c0:Frame)(cs:List Frame)(h:c0.mode=u):(recoverD (c0::cs)=some (Value.nilIface,{ c0 with mode:=u }::cs))\/(recoverD (c0::cs)=none/\Value.nilIface=Value.nilIface/\u=u):=by subst hu;refine .inr ⟨?_,rfl,rfl⟩;simp only[recoverD,h]
theorem b5O{v:Value}(c0:Frame)(cs:List Frame)(h:c0.mode=.panicking [{ v:=v,recovered:=false }]):(recoverD (c0::cs)=some (v,{ c0 with mode:=.panicking [{ v:=v,recovered:=true }] }::cs))\/(recoverD (c0::cs)=none/\v=Value.nilIface/\(.panicking [{ v:=v,recovered:=true }]:FrameMode)=.panicking [{ v:=v,recovered:=false }]):=by refine .inl ?_;simp only[recoverD,h]
theorem b0z(v:Value):settle (.panicking [{ v:=v,recovered:=true }])=.returning:=rfl
end
end Go.Eng
namespace Go.Eng
open Go Go.RowKit
section
variable {P:Program}{ops:Array Oper}{Q:Exit->Act->World->Prop}{n:Cx}{F:Fm}{m:View}
variable {ty:TypeId}{pos:String}{after:Array Edge}{d:Nat}
theorem c3o{α:Type}{enc:α->List Value}{e sz:Nat}{xs:List α}{eff:List Nat}{t:Tl}{hs hp hp0:List Res}{r:Res}{i:Nat}{s:Tr}{f:Operand}{args:List Operand}{tys:Array TypeId}{vs first cap:List Value}{q:FuncId}
 (ho:ops[i]?=some ⟨some d,.call ⟨.value f,args.toArray,tys⟩,ty,pos,after,none⟩) (he:eff.contains i=true) (ef:Ev n F f (.func (.func q) first.toArray cap.toArray)) (ea:Evs n F args vs) (hdel:Del hp r hp0)
 (c:∀fr,CT P q (first++vs++cap) (r::(fr++(hp0++hs))) m (λv _ h'=>b3K enc e sz (fr++(hp0++hs)) xs v h')) (hd:d<n.num)
 (k:∀a c,SR P ops Q n eff t hs s ((d,.slice a xs.length c)::F) (.row (.slice a xs.length c) e sz xs.length (fl enc xs)::hp0) m):SR P ops Q n eff t hs (.op i s) F hp m:=⟨_,ho,λx hx=>by cases hx;exact hd,by
 rw[he];refine⟨λfr a w ha st=>⟨λ_=>?_,λh=>by simp[Region.wanted]at h⟩⟩;rw[a01 ha ef ea (c fr).enter];have hpm:(fr++(hp++hs)).Perm (r::(fr++(hp0++hs))):=
  ((hdel.perm.append_right hs).append_left fr).trans List.perm_middle
 refine Calls.mono ((c fr).calls w (st.perm hpm)) ?_;rintro e w' ⟨v',m',h',rfl,hle,hst,a1,c1,k1,rfl,rfl,rfl⟩;exact .inl ⟨_,rfl,m,_,View.le.refl m,(hst.perm (List.perm_middle (l₁:=fr) (l₂:=hp0++hs)).symm).back hle,nofun,(k a1 c1).e⟩⟩
theorem C5{α:Type}{enc:α->List Value}{e sz:Nat}{xs:List α}{eff:List Nat}{t:Tl}{hs hp:List Res}{i:Nat}{s:Tr}{f:Operand}{args:List Operand}{tys:Array TypeId}{vs first cap:List Value}{q:FuncId}
 (ho:ops[i]?=some ⟨some d,.call ⟨.value f,args.toArray,tys⟩,ty,pos,after,none⟩) (he:eff.contains i=true) (ef:Ev n F f (.func (.func q) first.toArray cap.toArray)) (ea:Evs n F args vs)
 (c:∀fr,CT P q (first++vs++cap) (fr++(hp++hs)) m (λv _ h'=>b3K enc e sz (fr++(hp++hs)) xs v h')) (hd:d<n.num)
 (k:∀a c,SR P ops Q n eff t hs s ((d,.slice a xs.length c)::F) (.row (.slice a xs.length c) e sz xs.length (fl enc xs)::hp) m):SR P ops Q n eff t hs (.op i s) F hp m:=⟨_,ho,λx hx=>by cases hx;exact hd,by
 rw[he];refine⟨λfr a w ha st=>⟨λ_=>?_,λh=>by simp[Region.wanted]at h⟩⟩;rw[a01 ha ef ea (c fr).enter];refine Calls.mono ((c fr).calls w st) ?_;rintro e w' ⟨v',m',h',rfl,hle,hst,a1,c1,k1,rfl,rfl,rfl⟩;exact .inl ⟨_,rfl,m,_,View.le.refl m,(hst.perm (List.perm_middle (l₁:=fr) (l₂:=hp++hs)).symm).back hle,nofun,(k a1 c1).e⟩⟩
end
end Go.Eng
namespace Go.Eng
open Go Go.RowKit
section
variable {P:Program}{ops:Array Oper}{Q:Exit->Act->World->Prop}{n:Cx}{F:Fm}{h hp hs:List Res}{m:View}
variable {ty:TypeId}{pos:String}{after:Array Edge}{d:Nat}{dst:Option Nat}{g:Option (Nat×Bool)}
theorem b7q{x i:Operand}{t e len:Nat}{u:TypeDesc}{k:IntKind}{j:Int}{q:Nat}{cs:List Value}{v:Value}(ht:P.underlying t=some (.array len e))(he:P.underlying e=some u)(hp:O8 u=true)
 (hsz:(P.info? e).map (·.size)=some 1) (ex:Ev n F x (.agg cs.toArray)) (ei:Ev n F i (.int k j)) (hj:j=(q:Int)) (hq:q<len) (hv:cs[q]?=some v) :
 PO P ⟨dst,.index t x i,ty,pos,after,g⟩ n F h m v:=.mk λb w ha _=>by
 subst hj;have e1:¬len<=q:=by omega
 have hs:(sizeOf e).run P w=.ok 1 w:=by
  cases hi:P.info? e with
  |none=>rw[hi]at hsz;cases hsz
  |some y=>rw[hi]at hsz;simp at hsz;simp[sizeOf,typeInfo,hi,hsz]
 simp[execOp,ex b ha,ei b ha,Instr.index,asIntOf,run_underlying ht,part,O5 w he hp,hs,hv,e1]
theorem a2v{eff tt:List Nat}{tl:List Oper}{H:List Res}(htl:tt.filterMap (ops[·]?)=tl)(hH:(hp++hs).Perm H)(k:WL P ops Q n tl F H m):SR P ops Q n eff ⟨tt,[]⟩ hs .nil F hp m:=
 ⟨by subst htl;exact WL.perm hH k⟩
theorem a08{α:Type}(bl l t:List α):(bl++(l++t)).Perm (l++(bl++t)):=by rw[<-List.append_assoc,<-List.append_assoc];exact List.perm_append_comm.append_right t
end
end Go.Eng
namespace Go.Eng
open Go Go.RowKit
section
variable {H:Type}{enc:TypeId×Value->H}{P:Program}{W:World}{held:Bool}{J6:Nat}{t:TypeId}{cs:List Value}{x:DataW H×List MemPlace}
theorem V5{α:Type}{Pr:α->Prop}{enc':α->List Value}{e sz:Nat}(ht:P.underlying t=some (.slice e))(hsz:P.cellsOf e=sz)(hpos:0<sz)(henc:∀x,(enc' x).length=sz)
 (hdec:∀f ys y,f<J6->RdT enc P W held f e ys y->(∀k∈y.1.weights P e,k∈x.1.weights P t)->∃z,ys=enc' z/\Pr z) (h:RdT enc P W held J6 t cs x) :
 ∃a n c l,cs=[.slice a n c]/\l.length=n/\Sl (K6 W) a n c sz (fl enc' l)/\∀z∈l,Pr z:=by
 rcases b8Y ht h with rfl|⟨a,n,c,f,rfl,rfl,h1,h2,h3⟩
 ·exact⟨none,0,0,[],rfl,rfl,Sl.nil _ _,λ_ h=>by cases h⟩
 ·rw[hsz]at h3
  have h4:∀i,i<n->∃z,W.cells? 0 (a.add (i*sz)) sz=some (enc' z)/\Pr z:=λi hi=>by
   obtain⟨ys,y,e1,e2,e3⟩:=h3 i hi;obtain⟨z,rfl,hz⟩:=hdec f ys y (Nat.lt_succ_self f) e2 e3;exact⟨z,e1,hz⟩
  obtain⟨l,hl,hp⟩:=a8v n h4;refine⟨some a,n,c,l,rfl,hl,⟨by rw[a8f henc,hl],h1,by unfold maxLen at h2;omega,λj v hj=>?_⟩,λz hz=>?_⟩
  ·have hjl:j<n*sz:=by have:=(List.getElem?_eq_some_iff.1 hj).1;rwa [a8f henc,hl]at this
   have hq:j/sz<n:=Nat.div_lt_of_lt_mul (by rwa [Nat.mul_comm]at hjl);obtain⟨z,hz⟩:=A5 (l:=l) (k:=j/sz) (by omega);have hm:j%sz<sz:=Nat.mod_lt _ hpos;have hj2:(enc' z)[j%sz]?=some v:=by have:=a9u (sz:=sz) enc' henc l (j/sz) (j%sz) hm;rw[Nat.mul_comm,Nat.div_add_mod,hz]at this;unfold fl at hj;rw[hj]at this;exact this.symm
   obtain⟨hc,_⟩:=hp _ z hz;have hcell:=(b2x hc).2 _ v hj2;have hsp:a.spot=none:=by
    obtain⟨z0,hz0⟩:=A5 (l:=l) (k:=0) (by rw[hl];exact Nat.lt_of_le_of_lt (Nat.zero_le _) hq);obtain⟨v0,hv0⟩:=A5 (l:=enc' z0) (k:=0) (by rw[henc];omega);have h0:=(b2x (hp _ z0 hz0).1).2 _ v0 hv0;have e0:(a.add (0*sz)).add 0=a:=by simp[Addr.add]
    rw[e0]at h0;unfold World.cell? at h0;split at h0
    ·cases hs:a.spot with
     |none=>rfl
     |some q=>rw[hs]at h0;cases h0
    ·cases h0
   obtain⟨b,off,sp⟩:=a;cases hsp;refine⟨b,off,rfl,?_⟩;rw[Addr.add_lit,Addr.add_lit,Nat.add_assoc,show j/sz*sz+j%sz=j by rw[Nat.mul_comm,Nat.div_add_mod]]at hcell;exact a1F hcell
  ·obtain⟨i,hi⟩:=List.getElem?_of_mem hz
   exact(hp i z hi).2
end
end Go.Eng
end
namespace Go.Eng
section
open Go Go.RowKit
section
variable {P:Program}{Q:Exit->Act->World->Prop}{n:Cx}{y:Code}
def KK(P:Program)(y:Code)(Q:Exit->Act->World->Prop)(ro:Option Nat)(a:Act)(w:World):Prop:=y.wpIn (fen ro) 0 P (a0F Q) a w
theorem KKh:∀ds F h m,WC P y Q { n with ds:=ds } F h m->∀a w,Fr { n with ds:=ds } F a->St m h w->KK P y Q n.ro a w:=λ_ _ _ _ k=>k.e
end
section
variable {P:Program}{ops:Array Oper}{Q:Exit->Act->World->Prop}{n:Cx}{F:Fm}{h h':List Res}{m:View}{rest:List Oper}
variable {op:Op}{ty:TypeId}{pos:String}{after:Array Edge}{d:Nat}{v:Value}{dst:Option Nat}{g:Option (Nat×Bool)}
theorem Et{t:Nat}(h:look F t=some v:=by exact rfl):Ev n F (.tmp t) v:=Ev.tmp h
theorem Eg{t:Nat}{c:Bool}(hc:c=true)(h:look F t=some (gv c v):=by exact rfl):Ev n F (.tmp t) v:=Y9 h hc
theorem E0:Evs n F [] []:=Evs.nil
theorem E1{x:Operand}(a:Ev n F x v):Evs n F [x] [v]:=.cons a .nil
theorem E2{x x2:Operand}{v2:Value}(a:Ev n F x v)(a2:Ev n F x2 v2):Evs n F [x,x2] [v,v2]:=.cons a (.cons a2 .nil)
theorem E3{x x2 x3:Operand}{v2 v3:Value}(a:Ev n F x v)(a2:Ev n F x2 v2)(a3:Ev n F x3 v3):Evs n F [x,x2,x3] [v,v2,v3]:=.cons a (.cons a2 (.cons a3 .nil))
theorem E4{x x2 x3 x4:Operand}{v2 v3 v4:Value}(a:Ev n F x v)(a2:Ev n F x2 v2)(a3:Ev n F x3 v3)(a4:Ev n F x4 v4):Evs n F [x,x2,x3,x4] [v,v2,v3,v4]:=.cons a (.cons a2 (.cons a3 (.cons a4 .nil)))
theorem Me{α:Type}{a:α}{l:List α}(h:List.Mem a l:=by repeat (first|exact c0F _|apply c2T)):List.Mem a l:=h
theorem Sb{α:Type}{l r:List α}(h:l.Sublist r:=by repeat (first|exact c8H _|exact c9R _ _|exact c9V _ _|refine c9c _ ?_|apply c8M|refine c8G _ ?_)):l.Sublist r:=h
theorem Up{r r':Res}{l l':List Res}(h:Upd l r r' l':=by repeat (first|exact Upd.here|apply Upd.next)):Upd l r r' l':=h
theorem De{r:Res}{l l':List Res}(h:Del l r l':=by repeat (first|exact Del.here|apply Del.next)):Del l r l':=h
theorem Rr{a:Option Addr}{k c sz:Nat}{xs:List Value}(hr:Rd m h a k c sz xs:=by first|assumption|exact Rd.ofSl (by assumption)|exact Rd.ofPt rfl (by decide) Me|exact Rd.mono (by assumption) (View.le.refl _) Sb|exact Rd.inRow Me (by assumption) (by assumption) (by assumption)):Rd m h a k c sz xs:=hr
theorem On{ys:List Value}(h:∀u∈ys,u.oneCell'=true:=by first|exact b6R rfl|exact b7Y (λ_=>rfl) _):∀u∈ys,u.oneCell'=true:=h
theorem xG(hp:PO P ⟨some d,op,ty,pos,after,none⟩ n F h m v)(k:WL P ops Q n rest ((d,v)::F) h m)(hn:Nat.ble (d+1) n.num=true:=by exact rfl) :
 WL P ops Q n (⟨some d,op,ty,pos,after,none⟩::rest) F h m:=c8V hp (leB hn) k
theorem xM{t:Nat}(k:WL P ops Q n rest ((d,v)::F) h m)(h1:look F t=some v:=by exact rfl)(hn:Nat.ble (d+1) n.num=true:=by exact rfl) :
 WL P ops Q n (⟨some d,.move (.tmp t),ty,pos,after,none⟩::rest) F h m:=xG (PO.move (Ev.tmp h1)) k hn
theorem xK(k:WL P ops Q n rest ((d,v)::F) h m)(hn:Nat.ble (d+1) n.num=true:=by exact rfl) :
 WL P ops Q n (⟨some d,.move (.const v),ty,pos,after,none⟩::rest) F h m:=xG (PO.move Ev.const) k hn
theorem xA{t:Nat}(k:WL P ops Q n rest ((d,v)::F) h m)(h1:look F t=some v:=by exact rfl)(hn:Nat.ble (d+1) n.num=true:=by exact rfl) :
 WL P ops Q n (⟨some d,.assign (.tmp t),ty,pos,after,none⟩::rest) F h m:=xG (PO.assign (Ev.tmp h1)) k hn
theorem xC(k:WL P ops Q n rest ((d,v)::F) h m)(hn:Nat.ble (d+1) n.num=true:=by exact rfl) :
 WL P ops Q n (⟨some d,.assign (.const v),ty,pos,after,none⟩::rest) F h m:=xG (PO.assign Ev.const) k hn
theorem xE{t i:Nat}{vs:Array Value}(k:WL P ops Q n rest ((d,v)::F) h m)(h1:look F t=some (.tuple vs):=by exact rfl)(h2:vs[i]?=some v:=by exact rfl)(hn:Nat.ble (d+1) n.num=true:=by exact rfl) :
 WL P ops Q n (⟨some d,.extract (.tmp t) i,ty,pos,after,none⟩::rest) F h m:=xG (PO.extract (Ev.tmp h1) h2) k hn
theorem xP{t u:Nat}{c b:Bool}(k:WL P ops Q n rest ((d,.bool (c&&b))::F) h m)(h1:look F t=some (.bool c):=by exact rfl)(h2:look F u=some (gv c (.bool b)):=by exact rfl)(hn:Nat.ble (d+1) n.num=true:=by exact rfl) :
 WL P ops Q n (⟨some d,.pick (.tmp t) (.tmp u) (.const (.bool false)),ty,pos,after,none⟩::rest) F h m:=xG (a6v h1 h2) k hn
theorem xQ{t u:Nat}{c b:Bool}(k:WL P ops Q n rest ((d,.bool (c||b))::F) h m)(h1:look F t=some (.bool c):=by exact rfl)(h2:look F u=some (gv (!c) (.bool b)):=by exact rfl)(hn:Nat.ble (d+1) n.num=true:=by exact rfl) :
 WL P ops Q n (⟨some d,.pick (.tmp t) (.const (.bool true)) (.tmp u),ty,pos,after,none⟩::rest) F h m:=xG (b1I h1 h2) k hn
theorem xF{x:Operand}{t i:Nat}{fs:Array Field}{f:Field}{b off:Nat}(ht:P.underlying t=some (.struct fs))(k:WL P ops Q n rest ((d,.pointer (some ⟨b,off+f.offset,none⟩))::F) h m)(hf:fs[i]?=some f:=by exact rfl)(hz:P.cellsOf f.type≠0:=by exact Nat.ne_of_beq_eq_false rfl)
 (ex:Ev n F x (.pointer (some ⟨b,off,none⟩)):=by exact Ev.tmp rfl) (hn:Nat.ble (d+1) n.num=true:=by exact rfl):WL P ops Q n (⟨some d,.fieldAddr t x i,ty,pos,after,none⟩::rest) F h m:=xG (PO.fieldAddr ht hf hz ex) k hn
theorem pL{x:Operand}{t:TypeId}{u:TypeDesc}{b off:Nat}{cs:List Value}{e:TypeId}{fz:Nat×Nat}(ht:P.underlying t=some u)(hp:O8 u=true:=by exact rfl)
 (ex:Ev n F x (.pointer (some ⟨b,off,none⟩)):=by exact Ev.tmp rfl) (hm:List.Mem (Res.pt b (.cells cs.toArray e fz)) h:=by repeat (first|exact c0F _|apply c2T)) (hv:cs[off]?=some v:=by exact rfl):PO P ⟨dst,.load t x,ty,pos,after,g⟩ n F h m v:=E9 ht hp ex hm hv
theorem pA{x:Operand}{t:TypeId}{u:TypeDesc}{b off:Nat}{cs:List Value}{e:TypeId}{fz:Nat×Nat}{vs:List Value}(ht:P.underlying t=some u)(hp:O8 u=false:=by exact rfl)
 (hq:(P.info? t).isSome=true:=by exact rfl) (ex:Ev n F x (.pointer (some ⟨b,off,none⟩)):=by exact Ev.tmp rfl) (hm:List.Mem (Res.pt b (.cells cs.toArray e fz)) h:=by repeat (first|exact c0F _|apply c2T)) (hv:seg cs off (P.cellsOf t)=some vs:=by exact rfl) :
 PO P ⟨dst,.load t x,ty,pos,after,g⟩ n F h m (.agg vs.toArray):=W6 ht hp hq ex hm hv
theorem pF{x:Operand}{t i:Nat}{fs:Array Field}{f:Field}{b off:Nat}(ht:P.underlying t=some (.struct fs))(hf:fs[i]?=some f:=by exact rfl)(hz:P.cellsOf f.type≠0:=by exact Nat.ne_of_beq_eq_false rfl)
 (ex:Ev n F x (.pointer (some ⟨b,off,none⟩)):=by exact Ev.tmp rfl):PO P ⟨dst,.fieldAddr t x i,ty,pos,after,g⟩ n F h m (.pointer (some ⟨b,off+f.offset,none⟩)):=PO.fieldAddr ht hf hz ex
theorem xS{x y:Operand}{t:TypeId}{b off:Nat}{cs cs' vs:List Value}{e:TypeId}(k:WL P ops Q n rest F h' m)(ex:Ev n F x (.pointer (some ⟨b,off,none⟩)):=by exact Ev.tmp rfl)(ey:Ev n F y v:=by first|exact Ev.tmp rfl|exact Ev.const)
 (hvs:W0 v=some vs:=by exact rfl) (hq:(P.info? t).map (·.size)=some vs.length:=by exact rfl) (h1:vs.all (·.oneCell')=true:=by exact rfl) (h0:vs.isEmpty=false:=by exact rfl) 
 (u:Upd h (.pt b (.cells cs.toArray e (0,0))) (.pt b (.cells cs'.toArray e (0,0))) h':=by repeat (first|exact Upd.here|apply Upd.next)) (hc:a1N cs off vs=some cs':=by exact rfl) :
 WL P ops Q n (⟨none,.store t x y,ty,pos,after,none⟩::rest) F h m:=WL.store hq ex ey hvs h1 h0 hc u k
theorem xW{t:TypeId}{z:Value}{zs:List Value}(k:∀b,WL P ops Q n rest ((d,.pointer (some ⟨b,0,none⟩))::F) (.pt b (.cells zs.toArray t (0,0))::h) m)(hz:(P.info? t).bind (·.zero)=some z:=by exact rfl)(hzs:W0 z=some zs:=by exact rfl)(hn:Nat.ble (d+1) n.num=true:=by exact rfl) :
 WL P ops Q n (⟨some d,.alloc t,ty,pos,after,none⟩::rest) F h m:=WL.alloc hz hzs (leB hn) k
theorem xX{x:Operand}{t:TypeId}{zs:List Value}(k:∀b,WL P ops Q n rest ((d,.pointer (some ⟨b,0,none⟩))::F) (.pt b (.cells zs.toArray t (0,0))::h) m)(ex:Ev n F x v:=by exact Ev.tmp rfl)(hzs:W0 v=some zs:=by exact rfl)(hn:Nat.ble (d+1) n.num=true:=by exact rfl) :
 WL P ops Q n (⟨some d,.box t x,ty,pos,after,none⟩::rest) F h m:=WL.box ex hzs (leB hn) k
theorem xD{x y:Operand}{t e:TypeId}{sz by_ l cap k c l':Nat}{a b:Option Addr}{xs ys zs:List Value}{hq:Value->List Res}(E:EL P t e sz by_)(ex:Ev n F x (.slice a l cap))(ey:Ev n F y (.slice b k c))(hl:l+k=l')(hz:xs++ys=zs)(kk:∀a' cap',WL P ops Q n rest ((d,.slice a' l' cap')::F) (hq (.slice a' l' cap')) m)
 (u:∀v',Upd h (.row (.slice a l cap) e sz l xs) (.row v' e sz l' zs) (hq v'):=by intro v';repeat (first|exact Upd.here|apply Upd.next)) (rd:Rd m h b k c sz ys:=by first|assumption|exact Rd.ofSl (by assumption)|exact Rd.ofPt rfl (by decide) Me|exact Rd.mono (by assumption) (View.le.refl _) Sb|exact Rd.inRow Me (by assumption) (by assumption) (by assumption))
 (h1:∀u∈ys,u.oneCell'=true:=by first|exact b6R rfl|exact b7Y (λ_=>rfl) _) (h63:l'<=9223372036854775807:=by omega) (hbytes:l'*by_<=140737488355328:=by omega) (hn:Nat.ble (d+1) n.num=true:=by exact rfl) :
 WL P ops Q n (⟨some d,.call ⟨.builtin .append,#[x,y],#[t,t]⟩,ty,pos,after,none⟩::rest) F h m:=b6H E ex ey rd h1 hl hz h63 hbytes u (leB hn) kk
theorem xY{t e k:Nat}{sz by_:Nat}{ps:List (Nat×Operand)}{vs:List (Nat×Value)}{z:Value}{zs cs:List Value}(E:EL P t e sz by_)(ev:EvP n F ps vs)
 (kk:∀b,WL P ops Q n rest ((d,.slice (some ⟨b,0,none⟩) k k)::F) (.pt b (.cells cs.toArray e (0,0))::h) m) (hz:(P.info? e).bind (·.zero)=some z:=by exact rfl)
 (hzs:a8p z k=some zs:=by exact rfl) (hf:a4O (λi=>some (i*sz,sz)) zs vs=some cs:=by exact rfl) (hk:k*sz<=16777216:=by decide) (h0:Nat.beq (k*sz) 0=false:=by exact rfl) (hn:Nat.ble (d+1) n.num=true:=by exact rfl) :
 WL P ops Q n (⟨some d,.buildSlice t k ps.toArray,ty,pos,after,none⟩::rest) F h m:=WL.buildSlice E hz ev hzs hf hk h0 (leB hn) kk
theorem xf{args:List Operand}{tys:Array TypeId}{vs:List Value}{q:FuncId}(ea:Evs n F args vs)(c:CT P q vs h m (A7 h v))(k:WL P ops Q n rest ((d,v)::F) h m)(hn:Nat.ble (d+1) n.num=true:=by exact rfl) :
 WL P ops Q n (⟨some d,.call ⟨.value (.func q),args.toArray,tys⟩,ty,pos,after,none⟩::rest) F h m:=M6 (first:=[]) (cap:=[]) Ev.func ea (by simpa using c) (leB hn) k
theorem xg{args:List Operand}{tys:Array TypeId}{vs:List Value}{q:FuncId}{R:Value->List Res->Prop}(ea:Evs n F args vs)(c:CT P q vs h m (λv _ h'=>R v h'))(k:∀v h',R v h'->WL P ops Q n rest ((d,v)::F) h' m)(hn:Nat.ble (d+1) n.num=true:=by exact rfl) :
 WL P ops Q n (⟨some d,.call ⟨.value (.func q),args.toArray,tys⟩,ty,pos,after,none⟩::rest) F h m:=I3 (first:=[]) (cap:=[]) Ev.func ea (by simpa using c) (leB hn) k
theorem zG{gd:Nat×Bool}{c:Bool}(hp:c=true->PO P ⟨some d,op,ty,pos,after,some gd⟩ n F h m v)(k:WL P ops Q n rest ((d,gv c v)::F) h m)
 (hg:GU ops n F gd c:=by first|exact GU.t rfl rfl|exact GU.f rfl rfl|exact a0q rfl rfl|exact a4P rfl rfl) (hn:Nat.ble (d+1) n.num=true:=by exact rfl) :
 WL P ops Q n (⟨some d,op,ty,pos,after,some gd⟩::rest) F h m:=E8 hg hp (leB hn) k
theorem zM{gd:Nat×Bool}{c:Bool}{t:Nat}(k:WL P ops Q n rest ((d,gv c v)::F) h m)(h1:look F t=some v:=by exact rfl)
 (hg:GU ops n F gd c:=by first|exact GU.t rfl rfl|exact GU.f rfl rfl|exact a0q rfl rfl|exact a4P rfl rfl) (hn:Nat.ble (d+1) n.num=true:=by exact rfl) :
 WL P ops Q n (⟨some d,.move (.tmp t),ty,pos,after,some gd⟩::rest) F h m:=E8 hg (λ_=>PO.move (Ev.tmp h1)) (leB hn) k
theorem zV{gd:Nat×Bool}{c:Bool}{t:Nat}(k:WL P ops Q n rest ((d,gv c v)::F) h m)
 (hg:GU ops n F gd c:=by first|exact GU.t rfl rfl|exact GU.f rfl rfl|exact a0q rfl rfl|exact a4P rfl rfl) (h1:look F t=some (gv c v):=by exact rfl) (hn:Nat.ble (d+1) n.num=true:=by exact rfl) :
 WL P ops Q n (⟨some d,.move (.tmp t),ty,pos,after,some gd⟩::rest) F h m:=E8 hg (λhc=>PO.move (Y9 h1 hc)) (leB hn) k
theorem zU{gd:Nat×Bool}(k:WL P ops Q n (⟨dst,op,ty,pos,after,none⟩::rest) F h m)
 (hg:GU ops n F gd true:=by first|exact GU.t rfl rfl|exact GU.f rfl rfl) :
 WL P ops Q n (⟨dst,op,ty,pos,after,some gd⟩::rest) F h m:=c3A hg rfl k
theorem kp(ts:List Nat){F':Fm}{K:Act->World->Prop}{y:Code}(k:WC P y Q n F' h m)(hk:a4l F ts=some F':=by exact rfl)(hK:∀ds F h m,WC P y Q { n with ds:=ds } F h m->∀a w,Fr { n with ds:=ds } F a->St m h w->K a w:=by first|exact KKh|assumption):∀a w,Fr n F a->St m h w->K a w:=a8u hk (toK hK k)
theorem wn(ts:List Nat){F':Fm}{K:Act->World->Prop}{y:Code}{Q':Exit->Act->World->Prop}(k:WC P y Q n F' h m)(hq:Q' .normal=K:=by exact rfl)(hk:a4l F ts=some F':=by exact rfl)(hK:∀ds F h m,WC P y Q { n with ds:=ds } F h m->∀a w,Fr { n with ds:=ds } F a->St m h w->K a w:=by first|exact KKh|assumption) :
 WL P ops Q' n [] F h m:=WL.nil (hq▸a8u hk (toK hK k))
theorem wc{t:Nat}{x y:Code}{b:Bool}(kt:b=true->WC P x Q n F h m)(kf:b=false->WC P y Q n F h m)(h1:look F t=some (.bool b):=by exact rfl):WC P (.cond (.tmp t) x y) Q n F h m:=WC.cond (Ev.tmp h1) kt kf
theorem wR(hh:List Res){fn:Func}{m0:View}{R:Value->View->List Res->Prop}{r:ResultVar}(hR:R v m hh)(hfn:fn.results=#[r]:=by exact rfl)(h1:RV P n F h m r v:=by exact RV.tmp rfl)(hle:m0.le m:=by exact View.le.refl _)(hd:hh.Sublist h:=by repeat (first|exact c8H _|exact c9R _ _|exact c9V _ _|refine c9c _ ?_|apply c8M|refine c8G _ ?_))(hds:n.ds=[]:=by exact rfl) :
 ∀a w,Fr n F a->St m h w->bodyPost P fn (RQ m0 R) .ret a w:=a2V (.inl rfl) hfn h1 hle hd hR hds
theorem wV{l:List Oper}{b b':Bool}(e:b=b')(k:WL P ops Q n l ((d,.bool b')::F) h m):WL P ops Q n l ((d,.bool b)::F) h m:=e▸k
theorem sk{x y:Code}(k:∀K:Act->World->Prop,(∀ds F h m,WC P y Q { n with ds:=ds } F h m->∀a w,Fr { n with ds:=ds } F a->St m h w->K a w)->WC P x (Exit.then K Q) n F h m):WC P (.seq x y) Q n F h m:=c5v k
theorem bk{id:Nat}{c:Code}(k:WC P c (Exit.inBlock id Q) n F h m):WC P (.block id c) Q n F h m:=WC.block k
theorem rg{id:Nat}{l:List Oper}{G:List (Option Nat)}(k:∀ops:Array Oper,(∀j t,G[j]?=some (some t)->a3m ops j=some t)->WL P ops Q n l F h m)(hG:b0v l=some G:=by exact rfl):WC P (.region id l.toArray false) Q n F h m:=a9l hG k
theorem rn{id:Nat}{l:List Oper}{G:List (Option Nat)}(k:∀ops:Array Oper,WL P ops Q n l F h m)(hG:b0v l=some G:=by exact rfl):WC P (.region id l.toArray false) Q n F h m:=a9l hG λo _=>k o
end
section
variable {P:Program}{ops:Array Oper}{Q:Exit->Act->World->Prop}{n:Cx}{F:Fm}{m:View}{eff:List Nat}{t:Tl}{hs hp:List Res}{i:Nat}{s:Tr}
variable {op:Op}{ty:TypeId}{pos:String}{after:Array Edge}{d:Nat}{v:Value}
theorem yG(ho:ops[i]?=some ⟨some d,op,ty,pos,after,none⟩)(p:PO P ⟨some d,op,ty,pos,after,none⟩ n F hs m v)(k:SR P ops Q n eff t hs s ((d,v)::F) hp m)(he:eff.contains i=false:=by exact rfl)(hn:Nat.ble (d+1) n.num=true:=by exact rfl) :
 SR P ops Q n eff t hs (.op i s) F hp m:=c9o ho he p (leB hn) k
theorem yf{args:List Operand}{tys:Array TypeId}{vs:List Value}{q:FuncId}(ho:ops[i]?=some ⟨some d,.call ⟨.value (.func q),args.toArray,tys⟩,ty,pos,after,none⟩)(ea:Evs n F args vs)(c:∀fr,CT P q vs (fr++(hp++hs)) m (A7 (fr++(hp++hs)) v))(k:SR P ops Q n eff t hs s ((d,v)::F) hp m)
 (he:eff.contains i=true:=by exact rfl) (hn:Nat.ble (d+1) n.num=true:=by exact rfl) :
 SR P ops Q n eff t hs (.op i s) F hp m:=c0x (first:=[]) (cap:=[]) ho he Ev.func ea (λfr=>by simpa using c fr) (leB hn) k
end
section
variable {P:Program}{ops:Array Oper}{Q:Exit->Act->World->Prop}{n:Cx}{F:Fm}{h h':List Res}{m:View}{rest:List Oper}
def Pk(P:Program)(c:Code)(Q:Exit->Act->World->Prop)(n:Cx)(F:Fm)(h:List Res)(m:View)(G:Prop):Prop:=G->WC P c Q n F h m
theorem pkS{x y:Code}{G:(Act->World->Prop)->Prop}(p:∀K:Act->World->Prop,Pk P x (Exit.then K Q) n F h m (G K)) :
 Pk P (.seq x y) Q n F h m (∀K:Act->World->Prop,(∀ds F h m,WC P y Q { n with ds:=ds } F h m->∀a w,Fr { n with ds:=ds } F a->St m h w->K a w)->G K):=λg=>sk λK hK=>p K (g K hK)
theorem pkB{id:Nat}{c:Code}{G:Prop}(p:Pk P c (Exit.inBlock id Q) n F h m G):Pk P (.block id c) Q n F h m G:=λg=>bk (p g)
theorem pkR{id:Nat}{l:List Oper}{G:List (Option Nat)}(hG:b0v l=some G:=by exact rfl):Pk P (.region id l.toArray false) Q n F h m (∀ops:Array Oper,WL P ops Q n l F h m):=λg=>rn g hG
theorem pkG{id:Nat}{l:List Oper}{G:List (Option Nat)}(hG:b0v l=some G:=by exact rfl):Pk P (.region id l.toArray false) Q n F h m (∀ops:Array Oper,(∀j t,G[j]?=some (some t)->a3m ops j=some t)->WL P ops Q n l F h m):=λg=>rg g hG
theorem pkE{c:Code}:Pk P c Q n F h m (WC P c Q n F h m):=id
theorem gD{c:Code}{G:Prop}(k:G)(p:Pk P c Q n F h m G:=by(repeat first|(apply pkS;intro _)|apply pkB);first|exact pkR|exact pkE):WC P c Q n F h m:=p k
theorem gE{c:Code}{G:Prop}(k:G)(p:Pk P c Q n F h m G:=by(repeat first|(apply pkS;intro _)|apply pkB);exact pkE):WC P c Q n F h m:=p k
theorem gG{c:Code}{G:Prop}(k:G)(p:Pk P c Q n F h m G:=by(repeat first|(apply pkS;intro _)|apply pkB);exact pkG):WC P c Q n F h m:=p k
theorem Su{F F':Fm}(q:Sub F F':=by(repeat (first|exact Sub.nil|refine Sub.cons rfl ?_|refine Sub.consE rfl (by simp;done) ?_))):Sub F F':=q
theorem dS{id:Nat}{l:List Oper}(eff:List Nat)(s:Tr)(t:List Nat)(hm:P.follows .mixedOrders=true){hs:List Res}(k:SR P l.toArray Q n eff ⟨t,[]⟩ hs s F [] m)(hQ:∀c a w d v,Q (.panic c) (a.put (some d) v) w->Q (.panic c) a w:=by exact λ_ _ _ _ _ h=>h)(ok:(!eff.contains 4096&&a3Y l.toArray eff s [] t [])=true:=by kernel_rfl) :
 WC P (.region id l.toArray true) Q n F ([]++hs) m:=F3 eff s t hs [] hm hQ [] ok k
theorem Lb{a b:Nat}(h:Nat.ble a b=true:=by exact rfl):a<=b:=leB h
section
variable {op:BinOp}{kk:IntKind}{i j:Int}{v:Value}{t t':TypeId}{pos:String}{after:Array Edge}{ty:TypeId}{d x y:Nat}
theorem bB(k:WL P ops Q n rest ((d,v)::F) h m)(e1:look F x=some (.int kk i):=by exact rfl)(hv:iop op kk i j=some v:=by exact rfl)(hn:Nat.ble (d+1) n.num=true:=by exact rfl) :
 WL P ops Q n (⟨some d,.binOp op t (.tmp x) (.const (.int kk j)) t',ty,pos,after,none⟩::rest) F h m:=xG (P0 (Ev.tmp e1) Ev.const hv) k hn
theorem bD(k:WL P ops Q n rest ((d,v)::F) h m)(e1:look F x=some (.int kk i):=by exact rfl)(e2:look F y=some (.int kk j):=by exact rfl)(hv:iop op kk i j=some v:=by exact rfl)(hn:Nat.ble (d+1) n.num=true:=by exact rfl) :
 WL P ops Q n (⟨some d,.binOp op t (.tmp x) (.tmp y) t',ty,pos,after,none⟩::rest) F h m:=xG (P0 (Ev.tmp e1) (Ev.tmp e2) hv) k hn
theorem bI(k:WL P ops Q n rest ((d,.int .i64 (i+j))::F) h m)(e1:look F x=some (.int .i64 i):=by exact rfl)(h1:-9223372036854775808<=i+j/\i+j<=9223372036854775807:=by omega)(hn:Nat.ble (d+1) n.num=true:=by exact rfl) :
 WL P ops Q n (⟨some d,.binOp .add t (.tmp x) (.const (.int .i64 j)) t',ty,pos,after,none⟩::rest) F h m:=xG (L6 (Ev.tmp e1) Ev.const h1) k hn
end
theorem dF{p:Prop}[Decidable p](q:decide p=false):¬p:=of_decide_eq_false q
theorem dT{p:Prop}[Decidable p](q:decide p=true):p:=of_decide_eq_true q
end
section
variable {P:Program}{ops:Array Oper}{Q Q':Exit->Act->World->Prop}{n:Cx}{F F':Fm}{h h':List Res}{m:View}{rest:List Oper}{y:Code}{ts:List Nat}{id:Nat}{W G:Prop}
class Ud(P:Program)(t:TypeId)(u:outParam TypeDesc):Prop where h:P.underlying t=some u
class Es(P:Program)(t:TypeId)(e:outParam TypeId)(sz b:outParam Nat):Prop where h:EL P t e sz b
class Ln{α:Type}(e:α->List Value)(sz:outParam Nat):Prop where
 h:∀x,(e x).length=sz
 p:0<sz
theorem UU{t:TypeId}{u:TypeDesc}[i:Ud P t u]:P.underlying t=some u:=i.h
theorem LL{α:Type}{e:α->List Value}{sz:Nat}[i:Ln e sz]:∀x,(e x).length=sz:=i.h
section
variable {α:Type}{e:α->List Value}{x:Operand}{t:TypeId}{u:TypeDesc}{a:Option Addr}{len cap q sz o:Nat}{l:List α}{z:α}{v:Value}{vs:List Value}{dst:Option Nat}{ty:TypeId}{pos:String}{after:Array Edge}{g:Option (Nat×Bool)}
theorem pX[E:Ln e 1](ht:P.underlying t=some u)(hp:O8 u=true)(ex:Ev n F x (.pointer (elt a (q*1))))(hs:Rd m h a len cap 1 (fl e l))(hx:l[q]?=some z)(hv:e z=[v]):PO P ⟨dst,.load t x,ty,pos,after,g⟩ n F h m v:=a6c ht hp E.h hs ex hx hv
theorem pY[E:Ln e sz](ht:P.underlying t=some u)(hp:O8 u=false)(hq:(P.info? t).isSome=true)(ex:Ev n F x (.pointer (elt a (q*sz))))(hs:Rd m h a len cap sz (fl e l))(hx:l[q]?=some z)(hv:e z=vs)(hl:P.cellsOf t=vs.length)(h0:0<vs.length):PO P ⟨dst,.load t x,ty,pos,after,g⟩ n F h m (.agg vs.toArray):=a0Y ht hp hq E.h hs ex hx hv hl h0
theorem pZ[E:Ln e sz](ht:P.underlying t=some u)(hp:O8 u=true)(ex:Ev n F x (.pointer (elt a (q*sz+o))))(hs:Rd m h a len cap sz (fl e l))(hx:l[q]?=some z)(hv:(e z)[o]?=some v):PO P ⟨dst,.load t x,ty,pos,after,g⟩ n F h m v:=G8 ht hp E.h hs ex hx hv
end
theorem pE{α:Type}{e:α->List Value}{l:List α}{q:Nat}{z:α}{x:Operand}{t i o len cap sz:Nat}{fs:Array Field}{f:Field}{a:Option Addr}{dst:Option Nat}{ty:TypeId}{pos:String}{after:Array Edge}{g:Option (Nat×Bool)}[E:Ln e sz](ht:P.underlying t=some (.struct fs))(hf:fs[i]?=some f)(hz:P.cellsOf f.type≠0)(hs:Rd m h a len cap sz (fl e l))(hx:l[q]?=some z)(ex:Ev n F x (.pointer (elt a o))) :
 PO P ⟨dst,.fieldAddr t x i,ty,pos,after,g⟩ n F h m (.pointer (elt a (o+f.offset))):=G6 ht hf hz E.h E.p hs hx ex
theorem pI{x i:Operand}{t e:TypeId}{a:Option Addr}{len cap sz q b:Nat}{k:IntKind}{j:Int}{xs:List Value}{dst:Option Nat}{ty:TypeId}{pos:String}{after:Array Edge}{g:Option (Nat×Bool)}[E:Es P t e sz b](ex:Ev n F x (.slice a len cap))(ei:Ev n F i (.int k j))(hs:Rd m h a len cap sz xs)(hj:j=(q:Int))(hq:q<len) :
 PO P ⟨dst,.indexAddr t x i,ty,pos,after,g⟩ n F h m (.pointer (elt a (q*sz))):=D8 E.h.und E.h.size E.h.posz ex ei hs hj hq
structure Tg(ts:List Nat):Prop
theorem sq{x:Code}(k:WC P x (Exit.then (KK P y Q n.ro) Q) n F h m):WC P (.seq x y) Q n F h m:=WC.seq k
theorem rq{l:List Oper}(k:WL P l.toArray Q n l F h m)(hG:l.all a1c=true:=by exact rfl):WC P (.region id l.toArray false) Q n F h m:=.mk λa w ha hs=>b1V (by simpa using hG) (k.e a w ha hs)
theorem wnT(_:Tg ts)(k:WC P y Q n F' h m)(hq:Q' .normal=KK P y Q n.ro:=by exact rfl)(hk:a4l F ts=some F':=by exact rfl):WL P ops Q' n [] F h m:=WL.nil (hq▸a8u hk k.e)
theorem skT(_:Tg ts)(k:WC P y Q n F' h m)(hq:Q' .normal=KK P y Q n.ro:=by exact rfl)(hk:a4l F ts=some F':=by exact rfl):WC P .skip Q' n F h m:=WC.skip (hq▸a8u hk k.e)
theorem exT(_:Tg ts)(k:WC P y Q n F' h m)(hq:Q' (.exit id)=KK P y Q n.ro:=by exact rfl)(hk:a4l F ts=some F':=by exact rfl):WC P (.exit id) Q' n F h m:=WC.exit (hq▸a8u hk k.e)
structure Hd(G:Prop):Prop where g:G
theorem j0(k:G)(p:Hd G->W:=by intro g;(repeat first|refine sq ?_|refine bk ?_);first|exact rq g.g|exact g.g):W:=p ⟨k⟩
theorem jS(k:G)(p:Hd G->W:=by intro g;(repeat refine sq ?_);exact g.g):W:=p ⟨k⟩
theorem jE(k:G)(p:Hd G->W:=by intro g;(repeat first|refine sq ?_|refine bk ?_);exact g.g):W:=p ⟨k⟩
theorem cb{f:FuncId}{args:List Value}{R:Value->View->List Res->Prop}{fn:Func}{c:Code}{F0:Fm}{N:Nat}(k:WC P c (bodyPost P fn (RQ m R)) ⟨N,none,[]⟩ F0 h m)(he:∀as w,(callFunc f as).run P w=.ok (.enter f as) w:=by exact λ_ _=>rfl)(hf:P.funcs[f]?=some fn:=by exact rfl)(hb:fn.body=some c:=by exact rfl)(hN:fn.ntmps=N:=by exact rfl)(hl:Nat.ble args.length N=true:=by exact rfl)(hF:a3v 0 args=some F0:=by exact rfl):CT P f args h m R:=CT.body he hf hb hN (leB hl) hF k
theorem Eb{ps:List (Nat×Operand)}{vs:List (Nat×Value)}(h:EvP n F ps vs:=by(repeat (apply EvP.cons;first|exact Ev.const|exact Et));exact EvP.nil):EvP n F ps vs:=h
theorem jw(k:G)(p:Hd G->W:=by intro g;(first|(show WL _ _ _ _ (⟨_,.move _,_,_,_,none⟩::_) _ _ _;first|refine xM ?_|refine xK ?_)|(show WL _ _ _ _ (⟨_,.assign _,_,_,_,none⟩::_) _ _ _;first|refine xA ?_|refine xC ?_)|(show WL _ _ _ _ (⟨_,.fieldAddr _ _ _,_,_,_,none⟩::_) _ _ _;first|refine xF UU ?_|refine xG (pE UU rfl (Nat.ne_of_beq_eq_false rfl) Rr (by assumption) (Ev.tmp rfl)) ?_)|(show WL _ _ _ _ (⟨_,.load _ _,_,_,_,none⟩::_) _ _ _;first|refine xG (pL UU) ?_|refine xG (pA UU) ?_|refine xG (pZ UU rfl (by exact Ev.tmp rfl) Rr (by assumption) (by exact rfl)) ?_|refine xG (pX UU rfl (by exact Ev.tmp rfl) Rr (by assumption) (by exact rfl)) ?_|refine xG (pY UU rfl rfl (by exact Ev.tmp rfl) Rr (by assumption) (by exact rfl) (by exact rfl) (by exact Nat.succ_pos _)) ?_)|(show WL _ _ _ _ (⟨_,.store _ _ _,_,_,_,none⟩::_) _ _ _;refine xS ?_)|(show WL _ _ _ _ (⟨_,.binOp _ _ _ _ _,_,_,_,none⟩::_) _ _ _;first|refine bI ?_|refine bB ?_|refine bD ?_)|(show WL _ _ _ _ (⟨_,.pick _ _ _,_,_,_,none⟩::_) _ _ _;first|refine xP ?_|refine xQ ?_)|(show WL _ _ _ _ (⟨_,.extract _ _,_,_,_,none⟩::_) _ _ _;refine xE ?_)|(show WL _ _ _ _ (⟨_,.call _,_,_,_,none⟩::_) _ _ _;refine xG (Y8 UU Et) ?_)|(show WL _ _ _ _ (⟨_,.unOp _ _ _,_,_,_,none⟩::_) _ _ _;refine xG (PO.not Et) ?_)|(show WL _ _ _ _ (⟨_,.build _ _,_,_,_,none⟩::_) _ _ _;refine xG (PO.build UU rfl rfl rfl Eb (by exact rfl)) ?_)|(show WL _ _ _ _ (⟨_,.indexAddr _ _ _,_,_,_,none⟩::_) _ _ _;refine xG (pI (Ev.tmp rfl) (Ev.tmp rfl) Rr rfl (by omega)) ?_)|(show WL _ _ _ _ (⟨_,.nilCheck _,_,_,_,none⟩::_) _ _ _;refine xG (PO.nilCheck Et) ?_));exact g.g):W:=p ⟨k⟩
theorem jg(k:G)(p:Hd G->W:=by intro g;(first|(show WL _ _ _ _ (⟨_,.move _,_,_,_,some _⟩::_) _ _ _;first|refine zV ?_|refine zM ?_)|(show WL _ _ _ _ (⟨_,.fieldAddr _ _ _,_,_,_,some _⟩::_) _ _ _;first|refine zG (λ_=>pF UU) ?_|refine zG (λhc=>PO.fieldAddr UU rfl (Nat.ne_of_beq_eq_false rfl) (Eg hc)) ?_)|(show WL _ _ _ _ (⟨_,.load _ _,_,_,_,some _⟩::_) _ _ _;first|refine zG (λhc=>E9 UU rfl (Eg hc) Me rfl) ?_|refine zG (λhc=>W6 UU rfl rfl (Eg hc) Me rfl) ?_)|(show WL _ _ _ _ (⟨_,.call _,_,_,_,some _⟩::_) _ _ _;refine zG (λhc=>Y8 UU (Eg hc)) ?_)|(show WL _ _ _ _ (⟨_,.binOp _ _ _ _ _,_,_,_,some _⟩::_) _ _ _;first|refine zG (λhc=>P0 (Eg hc) Ev.const rfl) ?_|refine zG (λhc=>P0 (Eg hc) (Eg hc) rfl) ?_)|(show WL _ _ _ _ (⟨_,.unOp _ _ _,_,_,_,some _⟩::_) _ _ _;refine zG (λhc=>PO.not (Eg hc)) ?_));exact g.g):W:=p ⟨k⟩
theorem yY{eff:List Nat}{t:Tl}{hs hp:List Res}{i:Nat}{s:Tr}{o:Oper}(k:ops[i]?=some o->SR P ops Q n eff t hs (.op i s) F hp m)(ho:ops[i]?=some o:=by exact rfl):SR P ops Q n eff t hs (.op i s) F hp m:=k ho
theorem jy(k:G)(p:Hd G->W:=by intro g;(first|(show(_:Option Oper)=some ⟨_,.move _,_,_,_,none⟩->_;refine λe=>yG e (PO.move Et) ?_)|(show(_:Option Oper)=some ⟨_,.fieldAddr _ _ _,_,_,_,none⟩->_;first|refine λe=>yG e (pF UU) ?_|refine λe=>yG e (pE UU rfl (Nat.ne_of_beq_eq_false rfl) Rr (by assumption) (Ev.tmp rfl)) ?_)|(show(_:Option Oper)=some ⟨_,.load _ _,_,_,_,none⟩->_;first|refine λe=>yG e (pL UU) ?_|refine λe=>yG e (pA UU) ?_|refine λe=>yG e (pZ UU rfl (by exact Ev.tmp rfl) Rr (by assumption) (by exact rfl)) ?_|refine λe=>yG e (pX UU rfl (by exact Ev.tmp rfl) Rr (by assumption) (by exact rfl)) ?_|refine λe=>yG e (pY UU rfl rfl (by exact Ev.tmp rfl) Rr (by assumption) (by exact rfl) (by exact rfl) (by exact Nat.succ_pos _)) ?_)|(show(_:Option Oper)=some ⟨_,.pick _ _ _,_,_,_,none⟩->_;refine λe=>yG e (a6v rfl rfl) ?_)|(show(_:Option Oper)=some ⟨_,.indexAddr _ _ _,_,_,_,none⟩->_;refine λe=>yG e (pI (Ev.tmp rfl) (Ev.tmp rfl) Rr rfl (by omega)) ?_)|(show(_:Option Oper)=some ⟨_,.nilCheck _,_,_,_,none⟩->_;refine λe=>yG e (PO.nilCheck Et) ?_));exact g.g):W:=p ⟨k⟩
theorem jz(k:G)(p:Hd G->W:=by intro g;(first|(show(_:Option Oper)=some ⟨_,.fieldAddr _ _ _,_,_,_,some _⟩->_;refine λe=>C0 e rfl (GU.t rfl rfl) (λhc=>PO.fieldAddr UU rfl (Nat.ne_of_beq_eq_false rfl) Et) Lb ?_)|(show(_:Option Oper)=some ⟨_,.load _ _,_,_,_,some _⟩->_;first|refine λe=>C0 e rfl (GU.t rfl rfl) (λhc=>E9 UU rfl (Eg hc) Me rfl) Lb ?_|refine λe=>C0 e rfl (GU.t rfl rfl) (λhc=>W6 UU rfl rfl (Eg hc) Me rfl) Lb ?_));exact g.g):W:=p ⟨k⟩
theorem j1(k:G)(p:Hd G->W:=by intro g;first|(show WL _ _ _ _ (⟨_,_,_,_,_,none⟩::_) _ _ _;exact jw g.g)|(show WL _ _ _ _ (⟨_,_,_,_,_,some _⟩::_) _ _ _;exact jg g.g)|(refine yY ?_;first|(show(_:Option Oper)=some ⟨_,_,_,_,_,none⟩->_;exact jy g.g)|(show(_:Option Oper)=some ⟨_,_,_,_,_,some _⟩->_;exact jz g.g))):W:=p ⟨k⟩
theorem kQ0(ts:List Nat)(k:G) (p:Tg ts->Hd G->W:=by
 intro t g;refine j0 ?_
 first|refine wnT t ?_|refine skT t ?_|refine exT t ?_
 exact j0 g.g):W:=p ⟨⟩ ⟨k⟩
theorem kP0(ts:List Nat)(k:G) (p:Tg ts->Hd G->W:=by
 intro t g;refine j0 ?_
 first|refine wnT t ?_|refine skT t ?_|refine exT t ?_
 exact jS g.g):W:=p ⟨⟩ ⟨k⟩
theorem kA1(k:G) (p:Hd G->W:=by
 intro g;refine j0 ?_
 refine j1 ?_;exact g.g):W:=p ⟨k⟩
theorem kQ1(ts:List Nat)(k:G) (p:Tg ts->Hd G->W:=by
 intro t g;refine j0 ?_
 refine j1 ?_;first|refine wnT t ?_|refine skT t ?_|refine exT t ?_
 exact j0 g.g):W:=p ⟨⟩ ⟨k⟩
theorem kP1(ts:List Nat)(k:G) (p:Tg ts->Hd G->W:=by
 intro t g;refine j0 ?_
 refine j1 ?_;first|refine wnT t ?_|refine skT t ?_|refine exT t ?_
 exact jS g.g):W:=p ⟨⟩ ⟨k⟩
theorem kA2(k:G) (p:Hd G->W:=by
 intro g;refine j0 ?_
 iterate 2 refine j1 ?_
 exact g.g):W:=p ⟨k⟩
theorem kQ2(ts:List Nat)(k:G) (p:Tg ts->Hd G->W:=by
 intro t g;refine j0 ?_
 iterate 2 refine j1 ?_
 first|refine wnT t ?_|refine skT t ?_|refine exT t ?_
 exact j0 g.g):W:=p ⟨⟩ ⟨k⟩
theorem kP2(ts:List Nat)(k:G) (p:Tg ts->Hd G->W:=by
 intro t g;refine j0 ?_
 iterate 2 refine j1 ?_
 first|refine wnT t ?_|refine skT t ?_|refine exT t ?_
 exact jS g.g):W:=p ⟨⟩ ⟨k⟩
theorem kA3(k:G) (p:Hd G->W:=by
 intro g;refine j0 ?_
 iterate 3 refine j1 ?_
 exact g.g):W:=p ⟨k⟩
theorem kQ3(ts:List Nat)(k:G) (p:Tg ts->Hd G->W:=by
 intro t g;refine j0 ?_
 iterate 3 refine j1 ?_
 first|refine wnT t ?_|refine skT t ?_|refine exT t ?_
 exact j0 g.g):W:=p ⟨⟩ ⟨k⟩
theorem kP3(ts:List Nat)(k:G) (p:Tg ts->Hd G->W:=by
 intro t g;refine j0 ?_
 iterate 3 refine j1 ?_
 first|refine wnT t ?_|refine skT t ?_|refine exT t ?_
 exact jS g.g):W:=p ⟨⟩ ⟨k⟩
theorem kA4(k:G) (p:Hd G->W:=by
 intro g;refine j0 ?_
 iterate 4 refine j1 ?_
 exact g.g):W:=p ⟨k⟩
theorem kQ4(ts:List Nat)(k:G) (p:Tg ts->Hd G->W:=by
 intro t g;refine j0 ?_
 iterate 4 refine j1 ?_
 first|refine wnT t ?_|refine skT t ?_|refine exT t ?_
 exact j0 g.g):W:=p ⟨⟩ ⟨k⟩
theorem kP4(ts:List Nat)(k:G) (p:Tg ts->Hd G->W:=by
 intro t g;refine j0 ?_
 iterate 4 refine j1 ?_
 first|refine wnT t ?_|refine skT t ?_|refine exT t ?_
 exact jS g.g):W:=p ⟨⟩ ⟨k⟩
theorem kA5(k:G) (p:Hd G->W:=by
 intro g;refine j0 ?_
 iterate 5 refine j1 ?_
 exact g.g):W:=p ⟨k⟩
theorem kQ5(ts:List Nat)(k:G) (p:Tg ts->Hd G->W:=by
 intro t g;refine j0 ?_
 iterate 5 refine j1 ?_
 first|refine wnT t ?_|refine skT t ?_|refine exT t ?_
 exact j0 g.g):W:=p ⟨⟩ ⟨k⟩
theorem kP5(ts:List Nat)(k:G) (p:Tg ts->Hd G->W:=by
 intro t g;refine j0 ?_
 iterate 5 refine j1 ?_
 first|refine wnT t ?_|refine skT t ?_|refine exT t ?_
 exact jS g.g):W:=p ⟨⟩ ⟨k⟩
theorem kA6(k:G) (p:Hd G->W:=by
 intro g;refine j0 ?_
 iterate 6 refine j1 ?_
 exact g.g):W:=p ⟨k⟩
theorem kQ6(ts:List Nat)(k:G) (p:Tg ts->Hd G->W:=by
 intro t g;refine j0 ?_
 iterate 6 refine j1 ?_
 first|refine wnT t ?_|refine skT t ?_|refine exT t ?_
 exact j0 g.g):W:=p ⟨⟩ ⟨k⟩
theorem kP6(ts:List Nat)(k:G) (p:Tg ts->Hd G->W:=by
 intro t g;refine j0 ?_
 iterate 6 refine j1 ?_
 first|refine wnT t ?_|refine skT t ?_|refine exT t ?_
 exact jS g.g):W:=p ⟨⟩ ⟨k⟩
theorem kA7(k:G) (p:Hd G->W:=by
 intro g;refine j0 ?_
 iterate 7 refine j1 ?_
 exact g.g):W:=p ⟨k⟩
theorem kQ7(ts:List Nat)(k:G) (p:Tg ts->Hd G->W:=by
 intro t g;refine j0 ?_
 iterate 7 refine j1 ?_
 first|refine wnT t ?_|refine skT t ?_|refine exT t ?_
 exact j0 g.g):W:=p ⟨⟩ ⟨k⟩
theorem kP7(ts:List Nat)(k:G) (p:Tg ts->Hd G->W:=by
 intro t g;refine j0 ?_
 iterate 7 refine j1 ?_
 first|refine wnT t ?_|refine skT t ?_|refine exT t ?_
 exact jS g.g):W:=p ⟨⟩ ⟨k⟩
theorem kA8(k:G) (p:Hd G->W:=by
 intro g;refine j0 ?_
 iterate 8 refine j1 ?_
 exact g.g):W:=p ⟨k⟩
theorem kQ8(ts:List Nat)(k:G) (p:Tg ts->Hd G->W:=by
 intro t g;refine j0 ?_
 iterate 8 refine j1 ?_
 first|refine wnT t ?_|refine skT t ?_|refine exT t ?_
 exact j0 g.g):W:=p ⟨⟩ ⟨k⟩
theorem kP8(ts:List Nat)(k:G) (p:Tg ts->Hd G->W:=by
 intro t g;refine j0 ?_
 iterate 8 refine j1 ?_
 first|refine wnT t ?_|refine skT t ?_|refine exT t ?_
 exact jS g.g):W:=p ⟨⟩ ⟨k⟩
theorem kA9(k:G) (p:Hd G->W:=by
 intro g;refine j0 ?_
 iterate 9 refine j1 ?_
 exact g.g):W:=p ⟨k⟩
theorem kQ9(ts:List Nat)(k:G) (p:Tg ts->Hd G->W:=by
 intro t g;refine j0 ?_
 iterate 9 refine j1 ?_
 first|refine wnT t ?_|refine skT t ?_|refine exT t ?_
 exact j0 g.g):W:=p ⟨⟩ ⟨k⟩
theorem kP9(ts:List Nat)(k:G) (p:Tg ts->Hd G->W:=by
 intro t g;refine j0 ?_
 iterate 9 refine j1 ?_
 first|refine wnT t ?_|refine skT t ?_|refine exT t ?_
 exact jS g.g):W:=p ⟨⟩ ⟨k⟩
theorem b7f(k:G) (p:Hd G->W:=by
 intro g;refine j0 ?_
 iterate 10 refine j1 ?_
 exact g.g):W:=p ⟨k⟩
theorem d0E(ts:List Nat)(k:G) (p:Tg ts->Hd G->W:=by
 intro t g;refine j0 ?_
 iterate 10 refine j1 ?_
 first|refine wnT t ?_|refine skT t ?_|refine exT t ?_
 exact j0 g.g):W:=p ⟨⟩ ⟨k⟩
theorem d0z(ts:List Nat)(k:G) (p:Tg ts->Hd G->W:=by
 intro t g;refine j0 ?_
 iterate 10 refine j1 ?_
 first|refine wnT t ?_|refine skT t ?_|refine exT t ?_
 exact jS g.g):W:=p ⟨⟩ ⟨k⟩
theorem d08(k:G) (p:Hd G->W:=by
 intro g;refine j0 ?_
 iterate 11 refine j1 ?_
 exact g.g):W:=p ⟨k⟩
theorem d0B(ts:List Nat)(k:G) (p:Tg ts->Hd G->W:=by
 intro t g;refine j0 ?_
 iterate 11 refine j1 ?_
 first|refine wnT t ?_|refine skT t ?_|refine exT t ?_
 exact j0 g.g):W:=p ⟨⟩ ⟨k⟩
theorem d0D(ts:List Nat)(k:G) (p:Tg ts->Hd G->W:=by
 intro t g;refine j0 ?_
 iterate 11 refine j1 ?_
 first|refine wnT t ?_|refine skT t ?_|refine exT t ?_
 exact jS g.g):W:=p ⟨⟩ ⟨k⟩
theorem a8L(k:G) (p:Hd G->W:=by
 intro g;refine j0 ?_
 iterate 12 refine j1 ?_
 exact g.g):W:=p ⟨k⟩
theorem d0A(ts:List Nat)(k:G) (p:Tg ts->Hd G->W:=by
 intro t g;refine j0 ?_
 iterate 12 refine j1 ?_
 first|refine wnT t ?_|refine skT t ?_|refine exT t ?_
 exact j0 g.g):W:=p ⟨⟩ ⟨k⟩
theorem d0y(ts:List Nat)(k:G) (p:Tg ts->Hd G->W:=by
 intro t g;refine j0 ?_
 iterate 12 refine j1 ?_
 first|refine wnT t ?_|refine skT t ?_|refine exT t ?_
 exact jS g.g):W:=p ⟨⟩ ⟨k⟩
end
section
variable {P:Program}{ops:Array Oper}{Q:Exit->Act->World->Prop}{n:Cx}{F:Fm}{h h' hh:List Res}{m m0:View}{rest:List Oper}{v v2:Value}{r r2:ResultVar}{fn:Func}
theorem Ek{w:Value}:Ev n F (.const w) w:=Ev.const
theorem Ef{q:FuncId}:Ev n F (.func q) (.func (.func q) #[] #[]):=Ev.func
theorem Vl:m.le m:=View.le.refl m
theorem cA{p t:Nat}{u:TypeDesc}{b off:Nat}{cs:List Value}{e:TypeId}{fz:Nat×Nat}{vs:List Value}(ht:P.underlying t=some u)(hp:O8 u=false:=by exact rfl)(hq:(P.info? t).isSome=true:=by exact rfl)(hl:look F p=some (.pointer (some ⟨b,off,none⟩)):=by exact rfl)
 (hm:Res.pt b (.cells cs.toArray e fz)∈h:=by exact Me) (hv:seg cs off (P.cellsOf t)=some vs:=by exact rfl):RV P n F h m (.cell p t) (.agg vs.toArray):=G4 ht hp hq hl hm hv
theorem wT(hh:List Res){R:Value->View->List Res->Prop}(hR:R v m hh)(hQ:Q .ret=bodyPost P fn (RQ m0 R) .ret:=by exact rfl)(hfn:fn.results=#[r]:=by exact rfl)(h1:RV P n F h m r v:=by exact RV.tmp rfl)(hle:m0.le m:=by exact View.le.refl _)(hd:hh.Sublist h:=by exact Sb)(hds:n.ds=[]:=by exact rfl) :
 WC P .ret Q n F h m:=WC.ret (by rw[hQ];exact a2V (h':=hh) (.inl rfl) hfn h1 hle hd hR hds)
theorem xT(hh:List Res){R:Value->View->List Res->Prop}{X:Value->List Res->Prop}(hR:R v m hh)(hQ:Q .ret=bodyPost P fn (RX m0 R X) .ret:=by exact rfl)(hfn:fn.results=#[r]:=by exact rfl)(h1:RV P n F h m r v:=by exact RV.tmp rfl)(hle:m0.le m:=by exact View.le.refl _)(hd:hh.Sublist h:=by exact Sb)(hds:n.ds=[]:=by exact rfl) :
 WC P .ret Q n F h m:=WC.ret (by rw[hQ];exact toX (.inl rfl) (a2V (h':=hh) (.inl rfl) hfn h1 hle hd hR hds))
theorem w2(hh:List Res){R:Value->View->List Res->Prop}(hR:R (.tuple #[v,v2]) m hh)(hQ:Q .ret=bodyPost P fn (RQ m0 R) .ret:=by exact rfl)(hfn:fn.results=#[r,r2]:=by exact rfl)(h1:RV P n F h m r v:=by exact RV.tmp rfl)(h2:RV P n F h m r2 v2:=by exact RV.tmp rfl)(hle:m0.le m:=by exact View.le.refl _)(hd:hh.Sublist h:=by exact Sb)(hds:n.ds=[]:=by exact rfl) :
 WC P .ret Q n F h m:=WC.ret (by rw[hQ];exact c2k (h':=hh) (.inl rfl) hfn h1 h2 hle hd hR hds)
theorem w0(hh:List Res){R:Value->View->List Res->Prop}(hR:R (.tuple #[]) m hh)(hfn:fn.results=#[]:=by exact rfl)(hle:m0.le m:=by exact View.le.refl _)(hd:hh.Sublist h:=by exact Sb)(hds:n.ds=[]:=by exact rfl) :
 ∀a w,Fr n F a->St m h w->bodyPost P fn (RQ m0 R) .normal a w:=b2V (h':=hh) (.inr rfl) hfn hle hd hR hds
theorem sB{eff:List Nat}{t':Tl}{hs hp:List Res}{q d:Nat}{s:Tr}{t e k:Nat}{sz by_:Nat}{ps:List (Nat×Operand)}{vs:List (Nat×Value)}{z:Value}{zs cs:List Value}{ty:TypeId}{pos:String}{after:Array Edge}
 (ho:ops[q]?=some ⟨some d,.buildSlice t k ps.toArray,ty,pos,after,none⟩) (E:EL P t e sz by_) (kk:∀b,SR P ops Q n eff t' hs s ((d,.slice (some ⟨b,0,none⟩) k k)::F) (.pt b (.cells cs.toArray e (0,0))::hp) m) (ev:EvP n F ps vs:=by exact Eb) (he:eff.contains q=true:=by exact rfl) (hz:(P.info? e).bind (·.zero)=some z:=by exact rfl)
 (hzs:a8p z k=some zs:=by exact rfl) (hf:a4O (λi=>some (i*sz,sz)) zs vs=some cs:=by exact rfl) (hk:k*sz<=16777216:=by decide) (h0:Nat.beq (k*sz) 0=false:=by exact rfl) (hd:Nat.ble (d+1) n.num=true:=by exact rfl):SR P ops Q n eff t' hs (.op q s) F hp m:=SR.buildSlice ho he E hz ev hzs hf hk h0 (leB hd) kk
theorem pD(r:Res){l:List Oper}(k:WL P ops Q n l F (r::h') m)(d:Del h r h':=by exact De):WL P ops Q n l F h m:=WL.perm (Del.perm d) k
theorem kR(a:Option Addr){l:List Oper}{k cap sz:Nat}{e:TypeId}{ys:List Value}(kk:k<=cap->cap<=9223372036854775807->ys.length=k*sz->WL P ops Q n l F h m)(hm:Res.row (.slice a k cap) e sz k ys∈h:=by exact Me):WL P ops Q n l F h m:=b6m hm kk
theorem iR{a:Option Addr}{k cap sz:Nat}{e:TypeId}{ys:List Value}(hl:ys.length=k*sz)(hle:k<=cap)(hmx:cap<=9223372036854775807)(hm:Res.row (.slice a k cap) e sz k ys∈h:=by exact Me):Rd m h a k cap sz ys:=Rd.inRow hm hl hle hmx
end
section
variable {P:Program}{ops:Array Oper}{Q Q':Exit->Act->World->Prop}{n:Cx}{F F':Fm}{h h1 h2:List Res}{m:View}{rest:List Oper}{y:Code}{ts:List Nat}{id:Nat}{W G:Prop}{d:Nat}
structure Kp(ts:List Nat):Prop
theorem cB(ts:List Nat){f:FuncId}{args:List Value}{R:Value->View->List Res->Prop}{fn:Func}{c:Code}{F0:Fm}{N:Nat}(hf:P.funcs[f]?=some fn)(k:Kp ts->G)(he:∀as w,(callFunc f as).run P w=.ok (.enter f as) w:=by exact λ_ _=>rfl)
 (hN:fn.ntmps=N:=by conv=>lhs;whnf) (hb:fn.body=some c:=by exact rfl) (hl:args.length<=N:=by exact Lb) (hF:a3v 0 args=some F0:=by exact rfl) (p:Hd G->WC P c (bodyPost P fn (RQ m R)) ⟨N,none,[]⟩ F0 h m:=by intro g;exact j0 g.g):CT P f args h m R:=CT.body he hf hb hN hl hF (p ⟨k ⟨⟩⟩)
theorem xB(ts:List Nat){f:FuncId}{args:List Value}{R:Value->View->List Res->Prop}{X:Value->List Res->Prop}{fn:Func}{c:Code}{F0:Fm}{N:Nat}(hf:P.funcs[f]?=some fn)(k:Kp ts->G)(he:∀as w,(callFunc f as).run P w=.ok (.enter f as) w:=by exact λ_ _=>rfl)
 (hN:fn.ntmps=N:=by conv=>lhs;whnf) (hb:fn.body=some c:=by exact rfl) (hl:args.length<=N:=by exact Lb) (hF:a3v 0 args=some F0:=by exact rfl) (p:Hd G->WC P c (bodyPost P fn (RX m R X)) ⟨N,none,[]⟩ F0 h m:=by intro g;exact j0 g.g):CX P f args h m R X:=CX.body he hf hb hN hl hF (p ⟨k ⟨⟩⟩)
theorem cZ(ts:List Nat){f:FuncId}{args:List Value}{R:Value->View->List Res->Prop}{fn:Func}{c:Code}{F0:Fm}{N:Nat}(hf:P.funcs[f]?=some fn)(k:Kp ts->G)(he:∀as w,(callFunc f as).run P w=.ok (.enter f as) w:=by exact λ_ _=>rfl)
 (hN:fn.ntmps=N:=by conv=>lhs;whnf) (hb:fn.body=some c:=by exact rfl) (hl:args.length<=N:=by exact Lb) (hF:a3v 0 args=some F0:=by exact rfl) (p:Hd G->WC P c (bodyPost P fn (RQ m R)) ⟨N,none,[]⟩ F0 h m:=by intro g;exact g.g):CT P f args h m R:=CT.body he hf hb hN hl hF (p ⟨k ⟨⟩⟩)
theorem xZ(ts:List Nat){f:FuncId}{args:List Value}{R:Value->View->List Res->Prop}{X:Value->List Res->Prop}{fn:Func}{c:Code}{F0:Fm}{N:Nat}(hf:P.funcs[f]?=some fn)(k:Kp ts->G)(he:∀as w,(callFunc f as).run P w=.ok (.enter f as) w:=by exact λ_ _=>rfl)
 (hN:fn.ntmps=N:=by conv=>lhs;whnf) (hb:fn.body=some c:=by exact rfl) (hl:args.length<=N:=by exact Lb) (hF:a3v 0 args=some F0:=by exact rfl) (p:Hd G->WC P c (bodyPost P fn (RX m R X)) ⟨N,none,[]⟩ F0 h m:=by intro g;exact g.g):CX P f args h m R X:=CX.body he hf hb hN hl hF (p ⟨k ⟨⟩⟩)
theorem wnK(_:Kp ts)(k:WC P y Q n F' h m)(hq:Q' .normal=KK P y Q n.ro:=by exact rfl)(hk:a4l F ts=some F':=by exact rfl):WL P ops Q' n [] F h m:=WL.nil (hq▸a8u hk k.e)
theorem skK(_:Kp ts)(k:WC P y Q n F' h m)(hq:Q' .normal=KK P y Q n.ro:=by exact rfl)(hk:a4l F ts=some F':=by exact rfl):WC P .skip Q' n F h m:=WC.skip (hq▸a8u hk k.e)
theorem exK(_:Kp ts)(k:WC P y Q n F' h m)(hq:Q' (.exit id)=KK P y Q n.ro:=by exact rfl)(hk:a4l F ts=some F':=by exact rfl):WC P (.exit id) Q' n F h m:=WC.exit (hq▸a8u hk k.e)
def Wz(_:List Nat)(W:Prop):Prop:=W
theorem zJ{l:List Nat}{W1:Prop}(k:Wz l W1)(p:Hd W1->W:=by intro g;refine j0 ?_;exact g.g):Wz l W:=p ⟨k⟩
theorem zS{a:Nat}{r:List Nat}{W1:Prop}(k:Wz (a::r) W1)(p:Hd W1->W:=by intro g;refine j1 ?_;exact g.g):Wz ((a+1)::r) W:=p ⟨k⟩
theorem zN{a:Nat}{r:List Nat}{W1:Prop}(k:Wz (a::r) W1) (p:Hd W1->W:=by
 intro g;first|refine wnK (by assumption) ?_|refine skK (by assumption) ?_|refine exK (by assumption) ?_
 exact j0 g.g):Wz (0::a::r) W:=p ⟨k⟩
theorem zE(k:W):Wz [0] W:=k
theorem ZZ(l:List Nat)(k:G) (p:Hd G->Wz l W:=by
 intro g;refine zJ ?_
 repeat first|refine zS ?_|refine zN ?_
 exact zE g.g):W:=p ⟨k⟩
theorem Z0(k:G) (p:Hd G->W:=by
 intro g;refine j0 ?_
 first|refine wnK (by assumption) ?_|refine skK (by assumption) ?_|refine exK (by assumption) ?_
 exact j0 g.g):W:=p ⟨k⟩
theorem Z1(k:G) (p:Hd G->W:=by
 intro g;refine j0 ?_
 refine j1 ?_;first|refine wnK (by assumption) ?_|refine skK (by assumption) ?_|refine exK (by assumption) ?_
 exact j0 g.g):W:=p ⟨k⟩
theorem Z2(k:G) (p:Hd G->W:=by
 intro g;refine j0 ?_
 iterate 2 refine j1 ?_
 first|refine wnK (by assumption) ?_|refine skK (by assumption) ?_|refine exK (by assumption) ?_
 exact j0 g.g):W:=p ⟨k⟩
theorem Z3(k:G) (p:Hd G->W:=by
 intro g;refine j0 ?_
 iterate 3 refine j1 ?_
 first|refine wnK (by assumption) ?_|refine skK (by assumption) ?_|refine exK (by assumption) ?_
 exact j0 g.g):W:=p ⟨k⟩
theorem Z4(k:G) (p:Hd G->W:=by
 intro g;refine j0 ?_
 iterate 4 refine j1 ?_
 first|refine wnK (by assumption) ?_|refine skK (by assumption) ?_|refine exK (by assumption) ?_
 exact j0 g.g):W:=p ⟨k⟩
theorem Z5(k:G) (p:Hd G->W:=by
 intro g;refine j0 ?_
 iterate 5 refine j1 ?_
 first|refine wnK (by assumption) ?_|refine skK (by assumption) ?_|refine exK (by assumption) ?_
 exact j0 g.g):W:=p ⟨k⟩
theorem Z6(k:G) (p:Hd G->W:=by
 intro g;refine j0 ?_
 iterate 6 refine j1 ?_
 first|refine wnK (by assumption) ?_|refine skK (by assumption) ?_|refine exK (by assumption) ?_
 exact j0 g.g):W:=p ⟨k⟩
theorem Z7(k:G) (p:Hd G->W:=by
 intro g;refine j0 ?_
 iterate 7 refine j1 ?_
 first|refine wnK (by assumption) ?_|refine skK (by assumption) ?_|refine exK (by assumption) ?_
 exact j0 g.g):W:=p ⟨k⟩
theorem Z8(k:G) (p:Hd G->W:=by
 intro g;refine j0 ?_
 iterate 8 refine j1 ?_
 first|refine wnK (by assumption) ?_|refine skK (by assumption) ?_|refine exK (by assumption) ?_
 exact j0 g.g):W:=p ⟨k⟩
theorem Z9(k:G) (p:Hd G->W:=by
 intro g;refine j0 ?_
 iterate 9 refine j1 ?_
 first|refine wnK (by assumption) ?_|refine skK (by assumption) ?_|refine exK (by assumption) ?_
 exact j0 g.g):W:=p ⟨k⟩
theorem Z10(k:G) (p:Hd G->W:=by
 intro g;refine j0 ?_
 iterate 10 refine j1 ?_
 first|refine wnK (by assumption) ?_|refine skK (by assumption) ?_|refine exK (by assumption) ?_
 exact j0 g.g):W:=p ⟨k⟩
theorem Z11(k:G) (p:Hd G->W:=by
 intro g;refine j0 ?_
 iterate 11 refine j1 ?_
 first|refine wnK (by assumption) ?_|refine skK (by assumption) ?_|refine exK (by assumption) ?_
 exact j0 g.g):W:=p ⟨k⟩
theorem Z12(k:G) (p:Hd G->W:=by
 intro g;refine j0 ?_
 iterate 12 refine j1 ?_
 first|refine wnK (by assumption) ?_|refine skK (by assumption) ?_|refine exK (by assumption) ?_
 exact j0 g.g):W:=p ⟨k⟩
structure Bp(b:Bool)(p q:Prop):Prop where
 t:b=true->p
 f:b=false->q
theorem bpE{α:Type}[BEq α][LawfulBEq α]{x y:α}:Bp (x==y) (x=y) (x≠y):=⟨b6O,b3a⟩
theorem bpN{α:Type}[BEq α][LawfulBEq α]{x y:α}:Bp (x !=y) (x≠y) (x=y):=⟨d0r,d04⟩
theorem bpD{p:Prop}[Decidable p]:Bp (decide p) p (¬p):=⟨of_decide_eq_true,of_decide_eq_false⟩
section
variable {t:Nat}{x y:Code}{b:Bool}{p q:Prop}
theorem wE(kt:p->WC P x Q n F h m)(kf:q->WC P y Q n F h m)(h1:look F t=some (.bool b):=by exact rfl)(hb:Bp b p q:=by exact bpE):WC P (.cond (.tmp t) x y) Q n F h m:=WC.cond (Ev.tmp h1) (λc=>kt (hb.t c)) λc=>kf (hb.f c)
theorem wN(kt:p->WC P x Q n F h m)(kf:q->WC P y Q n F h m)(h1:look F t=some (.bool b):=by exact rfl)(hb:Bp b p q:=by exact bpN):WC P (.cond (.tmp t) x y) Q n F h m:=WC.cond (Ev.tmp h1) (λc=>kt (hb.t c)) λc=>kf (hb.f c)
theorem wD(kt:p->WC P x Q n F h m)(kf:q->WC P y Q n F h m)(h1:look F t=some (.bool b):=by exact rfl)(hb:Bp b p q:=by exact bpD):WC P (.cond (.tmp t) x y) Q n F h m:=WC.cond (Ev.tmp h1) (λc=>kt (hb.t c)) λc=>kf (hb.f c)
end
theorem xJ{α:Type}{enc:α->List Value}{e sz:Nat}{xs:List α}{args:List Operand}{tys:Array TypeId}{vs:List Value}{q:FuncId}{pos:String}{after:Array Edge}{ty:TypeId}(ea:Evs n F args vs)(c:CT P q vs h m (λv _ h'=>b3K enc e sz h xs v h'))
 (k:∀a c,WL P ops Q n rest ((d,.slice a xs.length c)::F) (.row (.slice a xs.length c) e sz xs.length (fl enc xs)::h) m) (hn:Nat.ble (d+1) n.num=true:=by exact rfl) :
 WL P ops Q n (⟨some d,.call ⟨.value (.func q),args.toArray,tys⟩,ty,pos,after,none⟩::rest) F h m:=xg ea c (λ_ _ ⟨a,c,_,e1,e2,e3⟩=>by subst e1 e2 e3;exact k a c) hn
theorem pP(r r2:Res){l:List Oper}(k:WL P ops Q n l F (r::r2::h2) m)(d1:Del h r h1:=by exact De)(d2:Del h1 r2 h2:=by exact De):WL P ops Q n l F h m:=WL.perm ((Del.perm d1).trans ((Del.perm d2).cons _)) k
end
end
end Go.Eng
namespace Go.Lx
abbrev B:=List UInt8
def ltr(z:Int):Bool:=(decide (z>=97)&&decide (z<=122))||(decide (z>=65)&&decide (z<=90))
def b9B(z:Int):Bool:=(decide (z>=65)&&decide (z<=90))||(decide (z>=97)&&decide (z<=122))
def dig(z:Int):Bool:=decide (z>=48)&&decide (z<=57)
def wch(c:UInt8):Bool:=!(!ltr c.toNat&&!dig c.toNat&&((c.toNat:Int) !=46))
def b3p(z:Int):Bool:=b9B z||dig z||(z==46)
def run:B->Nat
 | []=>0
 |c::l=>if wch c then run l+1 else 0
theorem a6H:∀l,run l<=l.length
 | []=>Nat.le_refl _
 |c::l=>by
  unfold run;have:=a6H l;split<;>simp<;>omega
theorem c3h{l:B}{k:Nat}{c:UInt8}(hc:l[k]?=some c):run (l.drop k)=if wch c then run (l.drop (k+1))+1 else 0:=by have h1:k<l.length:=(List.getElem?_eq_some_iff.1 hc).1;rw[List.drop_eq_getElem_cons h1,(List.getElem?_eq_some_iff.1 hc).2];rfl
def a7n:B:=[32,65,70,84,69,82,32,65,76,84,32,65,78,68,32,66,79,79,76,32,66,89,84,69,32,67,65,83,69,32,67,72,65,78,32,69,76,83,69,32,70,65,76,83,69,32,70,79,82,32,73,70,32,73,78,84,32,73,83,32,77,73,78,85,83,32,78,79,84,32,79,70,32,79,82,32,80,65,82,32,80,76,65,67,69,68,32,80,76,85,83,32,80,82,73,32,80,82,79,67,32,80,82,79,67,69,83,83,79,82,32,80,82,79,84,79,67,79,76,32,83,69,81,32,83,73,90,69,32,83,75,73,80,32,83,84,79,80,32,84,73,77,69,82,32,84,73,77,69,83,32,84,82,85,69,32,86,65,76,32,87,72,73,76,69,32]
def key(s:B):Bool:=!(s==[])&&((run s:Int)==s.length)&&Lib.contains a7n ([32]++s++[32])
def name(s:B):Bool:=!(s==[])&&decide ((s.length:Int)<=32)&&(match s with|c::_=>ltr c.toNat|[]=>false)&&((run s:Int)==s.length)&&!key s
def a9t:List B:=[[65,70,84,69,82],[65,76,84],[65,78,68],[66,79,79,76],[66,89,84,69],[67,65,83,69],[67,72,65,78],[69,76,83,69],[70,65,76,83,69],[70,79,82],[73,70],[73,78,84],[73,83],[77,73,78,85,83],[78,79,84],[79,70],[79,82],[80,65,82],[80,76,65,67,69,68],[80,76,85,83],[80,82,73],[80,82,79,67],[80,82,79,67,69,83,83,79,82],[80,82,79,84,79,67,79,76],[83,69,81],[83,73,90,69],[83,75,73,80],[83,84,79,80],[84,73,77,69,82],[84,73,77,69,83],[84,82,85,69],[86,65,76],[87,72,73,76,69]]
def a3R(s:B):List B->Bool
 | []=>false
 |x::l=>if x==s then true else a3R s l
theorem b7u(s:B){l:List B}{k:Nat}{x:B}(hx:l[k]?=some x):a3R s (l.drop k)=if x==s then true else a3R s (l.drop (k+1)):=by have h1:k<l.length:=(List.getElem?_eq_some_iff.1 hx).1;rw[List.drop_eq_getElem_cons h1,(List.getElem?_eq_some_iff.1 hx).2];rfl
theorem a1G(s:B):∀l,a3R s l=true↔s∈l
 | []=>by simp[a3R]
 |x::l=>by
  unfold a3R;split
  ·rename_i h;simp at h;simp[h]
  ·rename_i h
   have h':¬s=x:=λe=>h (by simp[e])
   rw[a1G s l];simp[h']
def c1p(s:B):Bool:=a3R s a9t
def a9x:B->Bool
 | []=>true
 |c::l=>if b3p c.toNat then a9x l else false
theorem b9F{l:B}{k:Nat}{c:UInt8}(hc:l[k]?=some c):a9x (l.drop k)=if b3p c.toNat then a9x (l.drop (k+1))else false:=by have h1:k<l.length:=(List.getElem?_eq_some_iff.1 hc).1;rw[List.drop_eq_getElem_cons h1,(List.getElem?_eq_some_iff.1 hc).2];rfl
def bad(s:B):Bool:=decide ((s.length:Int)<1)||decide ((s.length:Int)>32)||(match s with|c::_=>!b9B c.toNat|[]=>false)||c1p s
def nameR(s:B):Bool:=if bad s then false else a9x s
def encB(s:B):List Value:=[Eng.str s]
theorem encB_len(s:B):(encB s).length=1:=rfl
set_option linter.defProp false in
@[reducible,instance]def iencB_len:=Go.Eng.Ln.mk encB_len (by decide)
end Go.Lx
section
namespace Go.Xp
open Go.Eng
abbrev B:=List UInt8
inductive Ex where
 |mk (k o t n:Int) (s:B) (a:Option Addr) (c:Nat) (l:List Ex)
namespace Ex
def k:Ex->Int|mk k _ _ _ _ _ _ _=>k
def o:Ex->Int|mk _ o _ _ _ _ _ _=>o
def t:Ex->Int|mk _ _ t _ _ _ _ _=>t
def n:Ex->Int|mk _ _ _ n _ _ _ _=>n
def s:Ex->B|mk _ _ _ _ s _ _ _=>s
def a:Ex->Option Addr|mk _ _ _ _ _ a _ _=>a
def c:Ex->Nat|mk _ _ _ _ _ _ c _=>c
def l:Ex->List Ex|mk _ _ _ _ _ _ _ l=>l
end Ex
def exE(e:Ex):List Value:=[.int .u8 e.k,.int .u8 e.o,.int .u8 e.t,.int .i32 e.n,str e.s,.slice e.a e.l.length e.c]
theorem a1h(e:Ex):(exE e).length=6:=rfl
set_option linter.defProp false in
@[reducible,instance]def iexE_len:=Go.Eng.Ln.mk a1h (by decide)
def exV(e:Ex):Value:=.agg (exE e).toArray
inductive TOk(m:View)(h:List Res):Ex->Prop
 |mk {k o t n:Int} {s:B} {a:Option Addr} {c:Nat} {l:List Ex} (hr:Rd m h a l.length c 6 (fl exE l)) (hc:∀x∈l,TOk m h x):TOk m h (.mk k o t n s a c l)
theorem TOk.rd{m:View}{h:List Res}{e:Ex}(q:TOk m h e):Rd m h e.a e.l.length e.c 6 (fl exE e.l):=by cases q;assumption
theorem TOk.part{m:View}{h:List Res}{e x:Ex}(q:TOk m h e)(hx:x∈e.l):TOk m h x:=by cases q with|mk hr hc=>exact hc x hx
theorem TOk.mono{m:View}{h h':List Res}{e:Ex}(q:TOk m h e)(hh:h.Sublist h'):TOk m h' e:=by
 induction q with
 |mk hr _ ih=>exact .mk (hr.mono Vl hh) ih
inductive Wf:Ex->Prop
 |mk {k o t n:Int} {s:B} {a:Option Addr} {c:Nat} {l:List Ex} (hk:0<=k/\k<=255) (ho:0<=o/\o<=255) (ht:0<=t/\t<=255) (hn:-2147483648<=n/\n<=2147483647) (hs:s.length<=140737488355328) (hc:∀x∈l,Wf x):Wf (.mk k o t n s a c l)
theorem Wf.spec{e:Ex}(q:Wf e):((0<=e.k/\e.k<=255)/\(0<=e.o/\e.o<=255)/\(0<=e.t/\e.t<=255))/\((-2147483648<=e.n/\e.n<=2147483647)/\e.s.length<=140737488355328):=by cases q with|mk hk ho ht hn hs hc=>exact⟨⟨hk,ho,ht⟩,hn,hs⟩
theorem Wf.part{e x:Ex}(q:Wf e)(hx:x∈e.l):Wf x:=by cases q with|mk hk ho ht hn hs hc=>exact hc x hx
theorem Ex.ind{p:Ex->Prop}(h:∀e:Ex,(∀x∈e.l,p x)->p e)(e:Ex):p e:=
 Ex.rec (motive_1:=p) (motive_2:=λl=>∀x∈l,p x) (λk o t n s a c l ih=>h (.mk k o t n s a c l) ih) (λ_ hx=>by cases hx)
  (λy r hy hr x hx=>by
   rcases List.mem_cons.1 hx with rfl|hx
   ·exact hy
   ·exact hr x hx) e
mutual
def a3i:Ex->Nat
 | .mk _ _ _ _ _ _ _ l=>1+a1O l
def a1O:List Ex->Nat
 | []=>0
 |x::r=>a3i x+a1O r
end
theorem a0b(e:Ex):a3i e=1+a1O e.l:=by cases e;rfl
mutual
def c7B:Ex->List B
 | .mk k _ _ _ s _ _ l=>(if(k==4||k==5)||k==9 then[s]else[])++c2t l
def c2t:List Ex->List B
 | []=>[]
 |x::r=>c7B x++c2t r
end
theorem U5{α:Type}{l:List α}{k:Nat}{c:α}(hc:l[k]?=some c):l.take (k+1)=l.take k++[c]:=by rw[List.take_add_one,hc];rfl
def a9y(x y:Ex):Bool:=((((((x.k !=y.k)||(x.o !=y.o))||(x.t !=y.t))||(x.n !=y.n))||(x.s !=y.s))||((x.l.length:Int) !=y.l.length))
mutual
def E5:Ex->Ex->Bool
 | .mk k o t n s a c l,y=>!a9y (.mk k o t n s a c l) y&&a1R l y.l
def a1R:List Ex->List Ex->Bool
 | [],_=>true
 |_::_,[]=>true
 |x::r,y::q=>E5 x y&&a1R r q
end
theorem a6V(x y:Ex):E5 x y=(!a9y x y&&a1R x.l y.l):=by cases x;rfl
theorem b5f{l q:List Ex}{k:Nat}{x y:Ex}(hx:l[k]?=some x)(hy:q[k]?=some y):a1R (l.drop k) (q.drop k)=(E5 x y&&a1R (l.drop (k+1)) (q.drop (k+1))):=by
 rw[show l.drop k=x::l.drop (k+1) by
  have h1:k<l.length:=(List.getElem?_eq_some_iff.1 hx).1;rw[List.drop_eq_getElem_cons h1,(List.getElem?_eq_some_iff.1 hx).2],
  show q.drop k=y::q.drop (k+1) by
   have h1:k<q.length:=(List.getElem?_eq_some_iff.1 hy).1;rw[List.drop_eq_getElem_cons h1,(List.getElem?_eq_some_iff.1 hy).2]]
 rfl
def fin(o t n:Int)(s:B):Bool:=(((o==0)&&(t==0))&&(n==0))&&(s==[])
def N0(k:Int):B:=if k=1 then[73,78,84]else if k=2 then[66,89,84,69]else if k=3 then[66,79,79,76]else[]
def D5(e:Ex):Int×Bool:=
 if e.k=1 then(0,fin e.o e.t 0 e.s)
 else if e.k=2 then(if a6j .i32 e.n 8≠0 then(0,false)else(0,fin e.o e.t 0 e.s))
 else if e.k=3 then(if a6j .i32 e.n 1≠0 then(0,false)else(0,fin e.o e.t 0 e.s))
 else if e.k=4 then(if !Go.Lx.name e.s then(0,false)else(0,fin e.o e.t e.n []))
 else if e.k=9 then(if !Go.Lx.name e.s then(0,false)else(0,fin e.o e.t e.n []))
 else if e.k=5 then(if !Go.Lx.name e.s then(0,false)else(1,fin e.o e.t e.n []))
 else if e.k=6 then(if decide (e.o<23)||decide (IntKind.u8.wrap (e.o-23)>=4)then(0,false)else(1,fin 0 e.t e.n e.s))
 else if e.k=7 then(if decide (e.o<1)||decide (e.o>22)then(0,false)else(2,fin 0 e.t e.n e.s))
 else if e.k=8 then(if N0 e.t==[]then(0,false)else(1,fin e.o 0 e.n e.s))
 else(0,false)
def a5r(deep left:Int)(e:Ex):Bool:=(((!(D5 e).2||decide (left-1<0))||decide (deep>32))||((e.l.length:Int) !=(D5 e).1))
mutual
def L3(deep left:Int):Ex->Option Int
 | .mk k o t n s a c l=>if a5r deep left (.mk k o t n s a c l)then none else a0C (deep+1) (left-1) l
def a0C(deep left:Int):List Ex->Option Int
 | []=>some left
 |x::r=>match L3 deep left x with
  |some q=>a0C deep q r
  |none=>none
end
theorem a2z(deep left:Int)(e:Ex):L3 deep left e=if a5r deep left e then none else a0C (deep+1) (left-1) e.l:=by cases e;rfl
theorem b2m{l:List Ex}{k:Nat}{x:Ex}(hx:l[k]?=some x)(deep left:Int):a0C deep left (l.drop k)=(L3 deep left x).bind λq=>a0C deep q (l.drop (k+1)):=by have h1:k<l.length:=(List.getElem?_eq_some_iff.1 hx).1;rw[List.drop_eq_getElem_cons h1,(List.getElem?_eq_some_iff.1 hx).2];show(match L3 deep left x with|some q=>a0C deep q (l.drop (k+1))|none=>none)=_;cases L3 deep left x<;>rfl
theorem a8Q{deep left:Int}{e:Ex}(h:a5r deep left e=false):((D5 e).2=true/\0<=left-1)/\deep<=32/\(e.l.length:Int)=(D5 e).1:=by unfold a5r at h;simp only[Bool.or_eq_false_iff,Bool.not_eq_false',decide_eq_false_iff_not,bne_eq_false_iff_eq]at h;obtain⟨⟨⟨h1,h2⟩,h3⟩,h4⟩:=h;exact⟨⟨h1,by omega⟩,by omega,h4⟩
theorem a4m(e:Ex):∀(deep left q:Int),0<=left->L3 deep left e=some q->0<=q/\q<=left-1:=by
 refine Ex.ind (p:=λe=>∀(deep left q:Int),0<=left->L3 deep left e=some q->0<=q/\q<=left-1) (λe ih deep left q hl hq=>?_) e;rw[a2z]at hq;split at hq
 ·cases hq
 ·rename_i hh
  have hb:=a8Q (by simpa using hh);have key:∀(l:List Ex),(∀x∈l,x∈e.l)->∀z,0<=z->a0C (deep+1) z l=some q->0<=q/\q<=z:=by
   intro l;induction l with
   |nil=>intro _ z hz h;cases h;omega
   |cons x r ihr=>
    intro hm z hz h;unfold a0C at h;split at h
    ·rename_i p hp
     have h1:=ih x (hm x (by simp)) _ _ _ hz hp;have h2:=ihr (λy hy=>hm y (by simp[hy])) p h1.1 h;omega
    ·cases h
  exact key e.l (λ_ h=>h) (left-1) (by omega) hq
def F8(e:Ex):Bool:=(L3 1 256 e).isSome
def a1k:List B:=[[],[43],[45],[42],[47],[92],[80,76,85,83],[77,73,78,85,83],[84,73,77,69,83],[47,92],[92,47],[62,60],[60,60],[62,62],[61],[60,62],[60],[62],[60,61],[62,61],[65,78,68],[79,82],[65,70,84,69,82],[45],[77,73,78,85,83],[126],[78,79,84]]
def X2(o:Int):B×Bool:=if o==0||decide (o>=27)then([],false)else(a1k.getD o.toNat [],true)
theorem W5{α:Type}{l:List α}{k:Nat}{c:α}(hc:l[k]?=some c):l.drop k=c::l.drop (k+1):=by have h1:k<l.length:=(List.getElem?_eq_some_iff.1 hc).1;rw[List.drop_eq_getElem_cons h1,(List.getElem?_eq_some_iff.1 hc).2]
end Go.Xp
end
namespace Go.Lx
theorem c3t(z:Int):ltr z=b9B z:=by unfold ltr b9B;rw[Bool.or_comm]
theorem c8b(c:UInt8):wch c=b3p c.toNat:=by unfold wch b3p;rw[<-c3t,bne];cases ltr c.toNat<;>cases dig c.toNat<;>simp
theorem b3J:∀s:B,((run s:Int)==s.length)=a9x s
 | []=>rfl
 |c::l=>by
  have ih:=b3J l;unfold run a9x;rw[c8b];cases b3p c.toNat
  ·simp;omega
  ·rw[<-ih]
   simp only[if_pos,List.length_cons];rw[Bool.eq_iff_iff];simp
theorem b9k:b3p ((32:UInt8).toNat)=false:=by decide
theorem b8x:∀{s:B},a9x s=true->∀c∈s,c≠32
 | [],_,c,hc=>by cases hc
 |x::l,h,c,hc=>by
  unfold a9x at h;split at h
  ·rename_i hw
   rcases List.mem_cons.1 hc with rfl|hc
   ·rintro rfl
    rw[b9k]at hw;cases hw
   ·exact b8x h c hc
  ·cases h
theorem b1j:∀{s r:B},(∀c∈s,c≠32)->(s++32::r).takeWhile (· != 32)=s
 | [],_,_=>rfl
 |x::s,r,hs=>by
  have hx:(x !=32)=true:=by simpa using hs x (by simp)
  rw[List.cons_append,List.takeWhile_cons,hx,if_pos rfl,b1j λc hc=>hs c (List.mem_cons_of_mem _ hc)]
theorem b7l:∀i,i<200->(match (a7n.drop i).takeWhile (· != 32)with|[]=>true|w=>a3R w a9t)=true\/a7n[i-1]?≠some 32:=by decide +kernel
theorem c4u:∀s∈a9t,key s=true:=by decide +kernel
theorem key_eq(s:B):key s=c1p s:=by
 rw[Bool.eq_iff_iff];constructor
 ·intro h
  unfold key at h;rw[Bool.and_eq_true,Bool.and_eq_true,b3J]at h;obtain⟨⟨h0,h1⟩,h2⟩:=h;have hns:=b8x h1;unfold Lib.contains at h2;have h2:=of_decide_eq_true h2;rcases Lib.index_spec a7n ([32]++s++[32])with⟨e,_⟩|⟨i,_,hi,ho,_⟩
  ·omega
  ·unfold Lib.occAt at ho
   obtain⟨r,hr⟩:=List.isPrefixOf_iff_prefix.1 ho;have h3:(a7n.drop i)[0]?=some 32:=by rw[<-hr];rfl
   have h4:a7n.drop (i+1)=s++32::r:=by rw[<-List.tail_drop,<-hr];simp
   rw[List.getElem?_drop]at h3;have hlt:i<a7n.length:=(List.getElem?_eq_some_iff.1 h3).1;have hl:a7n.length<=198:=by decide +kernel
   rcases b7l (i+1) (by omega)with h5|h5
   ·rw[h4,b1j hns]at h5
    unfold c1p;cases s with
    |nil=>simp at h0
    |cons c s=>exact h5
   ·exact absurd h3 h5
 ·intro h
  exact c4u s ((a1G s _).1 h)
theorem name_eq(s:B):name s=nameR s:=by
 unfold name nameR bad;rw[b3J,key_eq];cases s with
 |nil=>rfl
 |cons c s=>
  simp only[c3t];have e:decide (((c::s).length:Int)<1)=false:=by simp;omega
  rw[e];have e2:decide (((c::s).length:Int)>32)=!decide (((c::s).length:Int)<=32):=by rw[<-decide_not];congr 1;simp[Int.not_le]
  rw[e2];rw[show(!(c::s==[]))=true from rfl];simp only[Bool.false_or,Bool.true_and];generalize decide (((c::s).length:Int)<=32)=x;generalize b9B c.toNat=y;generalize c1p (c::s)=z;generalize a9x (c::s)=u;cases x<;>cases y<;>cases z<;>cases u<;>rfl
end Go.Lx
namespace Go.Ty
section
open Go.Lx
structure Ty where
 kind:Int
 dim:Int
 item:Int
 proto:B
def zeroT:Ty:=⟨0,0,0,[]⟩
def I7(t:Ty):List Value:=[.int .u8 t.kind,.int .i64 t.dim,.int .u8 t.item,Eng.str t.proto]
def tyV(t:Ty):Value:=.agg (I7 t).toArray
def eqT(t u:Ty):Bool:=(t.kind==u.kind)&&((t.dim==u.dim)&&((t.item==u.item)&&((t.proto==u.proto)&&true)))
theorem eqT_iff(t u:Ty):eqT t u=true↔t=u:=by cases t;cases u;simp[eqT]
structure Tok where
 kind:Int
 at_:Int
 text:B
 n:Int
def zeroK:Tok:=⟨0,0,[],0⟩
def A3(t:Tok):List Value:=[.int .u8 t.kind,.int .i64 t.at_,Eng.str t.text,.int .i32 t.n]
theorem B8(t:Tok):(A3 t).length=4:=rfl
set_option linter.defProp false in
@[reducible,instance]def iencK_len:=Go.Eng.Ln.mk B8 (by decide)
def O4(t:Tok):Value:=.agg (A3 t).toArray
def eqK(t u:Tok):Bool:=(t.kind==u.kind)&&((t.at_==u.at_)&&((t.text==u.text)&&((t.n==u.n)&&true)))
theorem eqK_iff(t u:Tok):eqK t u=true↔t=u:=by cases t;cases u;simp[eqK]
structure Pm where
 kind:Int
 word:B
 size:Int
def c1Q(p:Pm):List Value:=[.int .u8 p.kind,Eng.str p.word,.int .i64 p.size]
def b9n:B:=[73,78,84]
def b2l:B:=[66,89,84,69]
def b1T:B:=[66,79,79,76]
def prims:List Pm:=[⟨1,b9n,4⟩,⟨2,b2l,1⟩,⟨3,b1T,1⟩]
def wordIn(k:Int):List Pm->B×Int×Bool
 | []=>([],0,false)
 |p::l=>if p.kind==k then(p.word,p.size,true)else wordIn k l
theorem b4r(k:Int){l:List Pm}{i:Nat}{p:Pm}(hp:l[i]?=some p):wordIn k (l.drop i)=if p.kind==k then(p.word,p.size,true)else wordIn k (l.drop (i+1)):=by have h1:i<l.length:=(List.getElem?_eq_some_iff.1 hp).1;rw[List.drop_eq_getElem_cons h1,(List.getElem?_eq_some_iff.1 hp).2];rfl
def wordS(k:Int):B×Int×Bool:=wordIn k prims
def is(k:Int):Bool:=(wordS k).2.2
def prim(k:Int):Bool:=(k==1)||(k==2)||(k==3)
theorem b5W(k:Int):is k=prim k:=by unfold is wordS prims wordIn wordIn wordIn wordIn prim;rw[show((1:Int)==k)=(k==1) from Bool.beq_comm,show((2:Int)==k)=(k==2) from Bool.beq_comm,show((3:Int)==k)=(k==3) from Bool.beq_comm];cases k==1<;>cases k==2<;>cases k==3<;>rfl
def far(t:Ty):Bool:=decide (t.dim<0)||decide (t.dim>64)
def timer:Ty:=⟨5,0,0,[]⟩
def may(t:Ty):Bool:=
 if far t then false
 else if is t.kind then(t.item==0)&&(t.proto==[])
 else if t.kind !=4 then eqT t timer
 else if t.item==0 then name t.proto
 else is t.item&&(t.proto==[])
def mayR(t:Ty):Bool:=
 if far t then false
 else if prim t.kind then(t.item==0)&&(t.proto==[])
 else if t.kind==4 then(prim t.item&&(t.proto==[]))||((t.item==0)&&nameR t.proto)
 else eqT t timer
theorem may_eq(t:Ty):may t=mayR t:=by
 unfold may mayR;rw[b5W,b5W,name_eq];cases far t
 ·cases prim t.kind
  ·simp only[Bool.false_eq_true,if_false]
   by_cases h4:t.kind=4
   ·simp only[h4,bne_self_eq_false,Bool.false_eq_true,if_false,beq_self_eq_true,if_true]
    by_cases h0:t.item=0
    ·rw[h0];simp[prim]
    ·have:(t.item==0)=false:=by simpa using h0
     rw[this];simp
   ·have h:(t.kind==4)=false:=by simpa using h4
    simp[bne,h]
  ·rfl
 ·rfl
structure Vr where
 tag:B
 a:Option Addr
 n:Nat
 c:Nat
 items:List Int
def M8(k:Int):List Value:=[.int .u8 k]
theorem D3(k:Int):(M8 k).length=1:=rfl
set_option linter.defProp false in
@[reducible,instance]def iencI_len:=Go.Eng.Ln.mk D3 (by decide)
def encV(v:Vr):List Value:=[Eng.str v.tag,.slice v.a v.n v.c]
theorem D2(v:Vr):(encV v).length=2:=rfl
set_option linter.defProp false in
@[reducible,instance]def iencV_len:=Go.Eng.Ln.mk D2 (by decide)
structure VOk(m:Eng.View)(h:List Eng.Res)(v:Vr):Prop where
 rd:Eng.Rd m h v.a v.n v.c 1 (Eng.fl M8 v.items)
theorem VOk.mono{m m':Eng.View}{h h':List Eng.Res}{v:Vr}(o:VOk m h v)(hm:m.le m')(hh:h.Sublist h'):VOk m' h' v:=⟨o.rd.mono hm hh⟩
def prL(cs:Bool)(a:Option Addr)(k c:Nat):List Value:=[.bool cs,.slice a k c]
def prV(cs:Bool)(a:Option Addr)(k c:Nat):Value:=.agg (prL cs a k c).toArray
structure PrOk(m:Eng.View)(h:List Eng.Res)(a:Option Addr)(k c:Nat)(l:List Vr):Prop where
 rd:Eng.Rd m h a k c 2 (Eng.fl encV l)
 ok:∀v,v∈l->VOk m h v
 tag:∀v,v∈l->v.tag.length<=9223372036854775807
theorem PrOk.mono{m m':Eng.View}{h h':List Eng.Res}{a:Option Addr}{k c:Nat}{l:List Vr}(o:PrOk m h a k c l)(hm:m.le m')(hh:h.Sublist h'):PrOk m' h' a k c l:=
 ⟨o.rd.mono hm hh,λv hv=>(o.ok v hv).mono hm hh,o.tag⟩
def idxF{α:Type}(q:α->Bool):List α->Int->Int
 | [],_=>-1
 |x::l,k=>if q x then k else idxF q l (k+1)
theorem idxF_drop{α:Type}(q:α->Bool){l:List α}{i:Nat}{x:α}(hx:l[i]?=some x)(k:Int):idxF q (l.drop i) k=if q x then k else idxF q (l.drop (i+1)) (k+1):=by have h1:i<l.length:=(List.getElem?_eq_some_iff.1 hx).1;rw[List.drop_eq_getElem_cons h1,(List.getElem?_eq_some_iff.1 hx).2];rfl
theorem idxF_any{α:Type}(q:α->Bool):∀(l:List α)(k:Int),0<=k->decide (idxF q l k>=0)=l.any q
 | [],_,_=>rfl
 |x::l,k,hk=>by
  unfold idxF;rw[List.any_cons];cases h:q x
  ·rw[Bool.false_or,<-idxF_any q l (k+1) (by omega)];rfl
  ·simp only[if_true,Bool.true_or];exact decide_eq_true hk
def itemsB(l:List Int)(least:Int):Bool:=decide ((l.length:Int)>=least)&&decide ((l.length:Int)<=8)&&!(l.any λk=>!is k)
def b2X(l:List Int)(least:Int):Bool:=(l.all prim)&&(decide ((l.length:Int)>=least)&&decide ((l.length:Int)<=8))
theorem c0y(l:List Int)(least:Int):itemsB l least=b2X l least:=by
 unfold itemsB b2X;have:(!(l.any λk=>!is k))=l.all prim:=by
  rw[List.any_eq_not_all_not];simp only[Bool.not_not];congr 1
  funext k
  exact b5W k
 rw[this,Bool.and_comm]
def tagIn(tag:B)(l:List Vr):Bool:=l.any λw=>w.tag==tag
def badV(pre:List Vr)(v:Vr):Bool:=!name v.tag||!itemsB v.items 0||tagIn v.tag pre
def mayIn(pre:List Vr):List Vr->Bool
 | []=>true
 |v::r=>if badV pre v then false else mayIn (pre++[v]) r
theorem a9W{l:List Vr}{i:Nat}{v:Vr}(hv:l[i]?=some v):mayIn (l.take i) (l.drop i)=if badV (l.take i) v then false else mayIn (l.take (i+1)) (l.drop (i+1)):=by have h1:i<l.length:=(List.getElem?_eq_some_iff.1 hv).1;rw[Eng.take_snoc hv,List.drop_eq_getElem_cons h1,(List.getElem?_eq_some_iff.1 hv).2];rfl
def c9v:Vr:=⟨[],none,0,0,[]⟩
def hdV(l:List Vr):Vr:=l.headD c9v
theorem b3O{l:List Vr}(h:((l.length:Int)==1)=true):l[0]?=some (hdV l):=by
 cases l with
 |nil=>simp at h
 |cons v l=>rfl
def mayPr(cs:Bool)(l:List Vr):Bool:=
 if !cs then((l.length:Int)==1)&&((hdV l).tag==[])&&itemsB (hdV l).items 1
 else if decide ((l.length:Int)<1)||decide ((l.length:Int)>16)then false
 else mayIn [] l
theorem a8h:∀{l pre:List Vr},mayIn pre l=true->∀v,v∈l->v.items.length<=8
 | [],_,_,v,hv=>by cases hv
 |w::r,pre,h,v,hv=>by
  unfold mayIn at h;cases hb:badV pre w with
  |true=>rw[hb]at h;cases h
  |false=>
   rw[hb]at h;rcases List.mem_cons.1 hv with rfl|hv
   ·unfold badV itemsB at hb
    simp at hb;omega
   ·exact a8h h v hv
theorem mayPr_items{cs:Bool}{l:List Vr}(h:mayPr cs l=true):∀v,v∈l->v.items.length<=8:=by
 unfold mayPr at h;cases cs with
 |false=>
  simp only[Bool.not_false,if_true,Bool.and_eq_true]at h;intro v hv;have h1:=b3O h.1.1;match l,h.1.1,hv with
  | [w],_,hv=>
   have:v=w:=by simpa using hv
   subst this;have h2:=h.2;unfold itemsB hdV at h2;simp at h2;omega
 |true=>
  simp only[Bool.not_true,Bool.false_eq_true,if_false]at h;split at h
  ·cases h
  ·exact a8h h
theorem b6M(tag:B){l:List Vr}{i:Nat}{w:Vr}(hw:l[i]?=some w):tagIn tag (l.drop i)=((w.tag==tag)||tagIn tag (l.drop (i+1))):=by have h1:i<l.length:=(List.getElem?_eq_some_iff.1 hw).1;rw[List.drop_eq_getElem_cons h1,(List.getElem?_eq_some_iff.1 hw).2];rfl
def eqI(x y:Int):Bool:=x==y
theorem b2F(x y:Int):eqI x y=true↔x=y:=by simp[eqI]
theorem a3c{x y:Int}(h:(x !=y)=true):eqI x y=false:=by simpa [eqI]using h
theorem a2J{x y:Int}(h:(x !=y)=false):eqI x y=true:=by simpa [eqI]using h
end
end Go.Ty
namespace Go.Lx
section
open Go.Ty
def b4B:B:=[43,45,42,47,92,61,60,62,126,63,33,38,58,59,44,40,41,91,93]
def a5k:B:=[32,47,92,32,92,47,32,62,60,32,60,60,32,62,62,32,60,62,32,60,61,32,62,61,32,58,61,32]
def H7:B:=[48,49,50,51,52,53,54,55,56,57,65,66,67,68,69,70]
def a7u:B:=[99,110,116,115,39,34,42]
def a2X:B:=[13,10,9,32,39,34,42]
def sym:B->Bool
 | [a]=>Lib.contains b4B [a]
 | [a,b]=>((a.toNat:Int) !=32)&&((b.toNat:Int) !=32)&&Lib.contains a5k ([32]++[a,b]++[32])
 |_=>false
def J7(t:Tok):Bool:=
 if decide (t.at_<0)||decide (t.at_>=256)then false
 else if t.kind==1 then(t.n==0)&&name t.text
 else if t.kind==2 then(t.n==0)&&key t.text
 else if t.kind==5 then(t.n==0)&&sym t.text
 else if t.kind==4 then(t.text==[])&&decide (t.n>=0)&&decide (t.n<256)
 else(t.kind==3)&&(t.text==[])
def a4F(r:B):Tok×Nat:=
 if key (r.take (run r))then(⟨2,0,r.take (run r),0⟩,run r)else if decide ((run r:Int)>32)then(zeroK,0)else(⟨1,0,r.take (run r),0⟩,run r)
def b0R:B->Int->Option Int
 | [],v=>some v
 |c::l,v=>if !dig c.toNat then none else b0R l (10*v+((c.toNat:Int)-48))
def b0U(r:B):Tok×Nat:=
 if decide ((run r:Int)>10)then(zeroK,0)else
 match b0R (r.take (run r)) 0 with
 |none=>(zeroK,0)
 |some v=>if v !=IntKind.i32.wrap v then(zeroK,0)else(⟨3,0,[],IntKind.i32.wrap v⟩,run r)
def a6q(c:UInt8):Int:=Lib.indexByte H7 c
def b4U:B->Int->Option Int
 | [],v=>some v
 |c::l,v=>if decide (a6q c<0)then none else b4U l (16*v+a6q c)
def a1t(s:B):Int×Bool:=
 match b4U s 0 with
 |none=>(0,false)
 |some v=>(v,!(s==[]))
def b3I(r:B):Tok×Nat:=
 if decide ((run (r.drop 1):Int)>8)then(zeroK,0)else
 if !(a1t ((r.drop 1).take (run (r.drop 1)))).2 then(zeroK,0)else
 (⟨3,0,[],IntKind.i32.wrap (a1t ((r.drop 1).take (run (r.drop 1)))).1⟩,1+run (r.drop 1))
def chB(s:B)(i:Nat):Int:=((s.getD i 0).toNat:Int)
def esc(c:UInt8):Int:=Lib.indexByte a7u c
def O3(s:B):Int×Nat:=
 if(s==[])||decide (chB s 0<32)||decide (chB s 0>126)||(chB s 0==39)then(0,0)
 else if chB s 0 !=42 then(chB s 0,1)
 else if decide ((s.length:Int)<2)then(0,0)
 else if decide (esc (s.getD 1 0)>=0)then(chB a2X (esc (s.getD 1 0)).toNat,2)
 else if(chB s 1 !=35)||decide ((s.length:Int)<4)then(0,0)
 else if !(a1t ((s.drop 2).take 2)).2 then(0,0)
 else((a1t ((s.drop 2).take 2)).1,4)
def noQ(s:B)(n:Nat):Bool:=((n:Int)==0)||((n:Int)==s.length)||(chB s n !=39)
def a1e(r:B):Tok×Nat:=
 if noQ (r.drop 1) (O3 (r.drop 1)).2 then(zeroK,0)else(⟨4,0,[],(O3 (r.drop 1)).1⟩,(O3 (r.drop 1)).2+2)
def a8j(r:B):Tok×Nat:=
 if decide (2<=r.length)&&sym (r.take 2)then(⟨5,0,r.take 2,0⟩,2)
 else if decide (1<=r.length)&&sym (r.take 1)then(⟨5,0,r.take 1,0⟩,1)
 else(zeroK,0)
def tok(r:B):Tok×Nat:=
 if ltr (chB r 0)then a4F r else if dig (chB r 0)then b0U r else if chB r 0==35 then b3I r else if chB r 0==39 then a1e r else a8j r
def a8G:Nat->B->Nat->Except Nat (List Tok)
 |_,[],_=>.ok []
 |0,_::_,_=>.ok []
 |k+1,c::r,at_=>
  if(c.toNat:Int)==32 then a8G k r (at_+1)
  else if(tok (c::r)).2==0 then .error at_
  else match a8G k ((c::r).drop (tok (c::r)).2) (at_+(tok (c::r)).2)with
   | .ok l=>.ok ({ (tok (c::r)).1 with at_:=at_ }::l)
   | .error e=>.error e
def lexO(s:B):List Tok×Int×Int:=
 if decide ((s.length:Int)>256)then([],0,3)
 else match a8G s.length s 0 with
  | .ok l=>(l,0,0)
  | .error a=>([],a,80)
end
section
open Go.Ty
set_option maxRecDepth 100000
theorem a0Q{p:UInt8->Bool}(h:∀n,n<256->p (UInt8.ofNat n)=true)(c:UInt8):p c=true:=by have:=h c.toNat c.toNat_lt;rwa [UInt8.ofNat_toNat]at this
def a5D:List B:=[[43],[45],[42],[47],[92],[47,92],[92,47],[62,60],[60,60],[62,62],[61],[60,62],[60],[62],[60,61],[62,61],[126],[58,61],[63],[33],[38],[58],[59],[44],[40],[41],[91],[93]]
def c2d(s:B):Bool:=a3R s a5D
theorem c7O:∀s∈a5D,sym s=true:=by decide +kernel
theorem c6g:∀c:UInt8,(sym [c]==c2d [c])=true:=a0Q (by decide +kernel)
theorem b70:∀i,i<28->(match a5k.drop i with|32::a::b::32::_=>a3R [a,b] a5D||a==32||b==32|_=>true)=true:=by decide +kernel
theorem b6c(s:B):sym s=c2d s:=by
 match s with
 | []=>rfl
 | [a]=>simpa using c6g a
 | [a,b]=>
  rw[Bool.eq_iff_iff];constructor
  ·intro h
   unfold sym at h;simp only[Bool.and_eq_true]at h;obtain⟨⟨ha,hb⟩,h2⟩:=h;unfold Lib.contains at h2;have h2:=of_decide_eq_true h2;rcases Lib.index_spec a5k ([32]++[a,b]++[32])with⟨e,_⟩|⟨i,_,hi,ho,_⟩
   ·omega
   ·unfold Lib.occAt at ho
    obtain⟨r,hr⟩:=List.isPrefixOf_iff_prefix.1 ho;have hlt:i<28:=by
     have hl:a5k.length=28:=rfl;rcases Nat.lt_or_ge i 28 with h|h
     ·exact h
     ·rw[List.drop_eq_nil_of_le (by omega)]at hr;simp at hr
    have h5:=b70 i hlt;rw[<-hr]at h5;simp only[List.cons_append,List.nil_append,Bool.or_eq_true,beq_iff_eq]at h5;rcases h5 with(h5|h5)|h5
    ·exact h5
    ·subst h5;simp at ha
    ·subst h5;simp at hb
  ·intro h
   exact c7O _ ((a1G _ _).1 h)
 |a::b::c::s=>
  have:c2d (a::b::c::s)=false:=by
   cases h:c2d (a::b::c::s)with
   |false=>rfl
   |true=>have:=(a1G _ _).1 h;simp[a5D]at this
  rw[this];rfl
def b2I(base:Int)(c:UInt8):Int:=
 if(base==16)&&decide ((c.toNat:Int)>=65)&&decide ((c.toNat:Int)<=70)then(c.toNat:Int)-65+10 else if dig c.toNat then(c.toNat:Int)-48 else -1
def a8E(base:Int):B->Int->Option Int
 | [],v=>some v
 |c::l,v=>if decide (b2I base c<0)then none else a8E base l (base*v+b2I base c)
def c3U(s:B)(base most limit:Int):Int×Bool:=
 if decide ((s.length:Int)<1)||decide ((s.length:Int)>most)then(0,false)else
 match a8E base s 0 with
 |none=>(0,false)
 |some v=>(v,decide (v<limit))
theorem c7T(c:UInt8):b2I 10 c=if dig c.toNat then(c.toNat:Int)-48 else -1:=rfl
theorem c7f(c:UInt8):a6q c=b2I 16 c:=by simpa using a0Q (p:=λc=>a6q c==b2I 16 c) (by decide +kernel) c
theorem c1E:∀(l:B)(v:Int),b0R l v=a8E 10 l v
 | [],v=>rfl
 |c::l,v=>by
  unfold b0R a8E;rw[c7T,c1E l];cases h:dig c.toNat with
  |false=>rfl
  |true=>
   have:decide ((c.toNat:Int)-48<0)=false:=by unfold dig at h;simp at h;simp;omega
   simp[this]
theorem a5p:∀(l:B)(v:Int),b4U l v=a8E 16 l v
 | [],v=>rfl
 |c::l,v=>by
  unfold b4U a8E;rw[c7f,a5p l]
theorem a5F(c:UInt8):b2I 16 c<16:=by simpa using a0Q (p:=λc=>decide (b2I 16 c<16)) (by decide +kernel) c
theorem a3a{base:Int}(hb:1<=base)(hd:∀c,b2I base c<base):∀(l:B)(v r:Int),0<=v->a8E base l v=some r->0<=r/\r<(v+1)*base^l.length
 | [],v,r,hv,h=>by cases h;simp;omega
 |c::l,v,r,hv,h=>by
  unfold a8E at h;split at h
  ·cases h
  ·rename_i hc
   have hc0:0<=b2I base c:=by simpa using hc
   have hc1:=hd c;have h0:0<=base*v:=Int.mul_nonneg (by omega) hv;obtain⟨h1,h2⟩:=a3a hb hd l _ r (by omega) h;refine⟨h1,Int.lt_of_lt_of_le h2 ?_⟩;rw[List.length_cons,Int.pow_succ,<-Int.mul_assoc,Int.mul_right_comm];refine Int.mul_le_mul_of_nonneg_right ?_ (Int.pow_nonneg (by omega));rw[Int.add_mul,Int.one_mul,Int.mul_comm v base];omega
theorem c2i(s:B)(n:Nat)(hn:s.length<=n)(lim:Int)(hl:16^n<=lim):a1t s=c3U s 16 n lim:=by
 unfold a1t c3U;rw[a5p];cases s with
 |nil=>rfl
 |cons c s=>
  have e:(decide (((c::s).length:Int)<1)||decide (((c::s).length:Int)>n))=false:=by simp at hn⊢;omega
  rw[e];simp only[Bool.false_eq_true,if_false];cases h:a8E 16 (c::s) 0 with
  |none=>rfl
  |some v=>
   have hb:=(a3a (by decide) a5F (c::s) 0 v (by decide) h).2;have hp:(16:Int)^(c::s).length<=16^n:=by exact_mod_cast Nat.pow_le_pow_right (by decide) hn
   simp only[Prod.mk.injEq,true_and];rw[show((c::s)==[])=false from rfl];symm;simp;omega
def a7R:List B:=[[42,99],[42,110],[42,116],[42,115],[42,39],[42,34],[42,42]]
def a5P:List Int:=[13,10,9,32,39,34,42]
def a9z(s:B):List B->List Int->Option Int
 |x::l,v::k=>if s==x then some v else a9z s l k
 |_,_=>none
def a0I(s:B):Int×Bool:=
 if((s.length:Int)==1)&&decide (chB s 0>=32)&&decide (chB s 0<=126)&&(s !=[39])&&(s !=[42])then(chB s 0,true)
 else match a9z s a7R a5P with
  |some v=>(v,true)
  |none=>if((s.length:Int)==4)&&(s.take 2==[42,35])then(IntKind.i32.wrap (c3U (s.drop 2) 16 2 256).1,(c3U (s.drop 2) 16 2 256).2)else(0,false)
def c8L(s:B)(n:Nat):Bool:=(a0I ((s.drop 1).take (n-2))).2&&(chB s (n-1)==39)
def b0F(s:B):List Nat->Tok×Nat
 | []=>(zeroK,0)
 |n::ns=>if !decide ((n:Int)<=s.length)then(zeroK,0)else if c8L s n then(⟨4,0,[],(a0I ((s.drop 1).take (n-2))).1⟩,n)else b0F s ns
def a8U(s:B):Tok×Nat:=b0F s [3,4,5,6]
theorem b5k(a:UInt8):a0I [a]=if(decide ((a.toNat:Int)>=32)&&decide ((a.toNat:Int)<=126)&&(a !=39)&&(a !=42))then((a.toNat:Int),true)else(0,false):=by have:=a0Q (p:=λa=>a0I [a]==if(decide ((a.toNat:Int)>=32)&&decide ((a.toNat:Int)<=126)&&(a !=39)&&(a !=42))then((a.toNat:Int),true)else(0,false)) (by decide +kernel) a;simpa using this
theorem c2Z(a b:UInt8):a9z [a,b] a7R a5P=if a==42&&decide (esc b>=0)then some (chB a2X (esc b).toNat)else none:=by
 by_cases h:a=42
 ·subst h
  have:=a0Q (p:=λb=>a9z [42,b] a7R a5P==if decide (esc b>=0)then some (chB a2X (esc b).toNat)else none) (by decide +kernel) b;simpa using this
 ·have h':(a==42)=false:=by simpa using h
  rw[h'];simp[a9z,a7R,a5P,h]
theorem a1Q(a b:UInt8):a0I [a,b]=if a==42&&decide (esc b>=0)then(chB a2X (esc b).toNat,true)else(0,false):=by unfold a0I;rw[show(([a,b].length:Int)==1)=false from rfl,show(([a,b].length:Int)==4)=false from rfl,c2Z];simp only[Bool.false_and,Bool.false_eq_true,if_false];cases (a==42&&decide (esc b>=0))<;>rfl
theorem b1f(s:B)(h:s.length≠2):a9z s a7R a5P=none:=by
 have:∀x:B,x.length=2->(s==x)=false:=by
  intro x hx;cases e:s==x with
  |false=>rfl
  |true=>exact absurd (by rw[eq_of_beq e];exact hx) h
 simp[a9z,a7R,a5P,this]
theorem T0(a b c:UInt8):a0I [a,b,c]=(0,false):=by unfold a0I;rw[b1f _ (by simp)];rfl
theorem b6I{v:Int}(h:0<=v/\v<2147483648):IntKind.i32.wrap v=v:=by unfold IntKind.wrap;simp[IntKind.bits,IntKind.signed];omega
theorem a2y(a b c d:UInt8):a0I [a,b,c,d]=if(a==42)&&(b==35)then a1t [c,d]else(0,false):=by
 unfold a0I;rw[b1f _ (by simp)];rw[show(([a,b,c,d].length:Int)==1)=false from rfl,show(([a,b,c,d].length:Int)==4)=true from rfl,show List.take 2 [a,b,c,d]=[a,b] from rfl,show List.drop 2 [a,b,c,d]=[c,d] from rfl];simp only[Bool.false_and,Bool.false_eq_true,if_false,Bool.true_and];rw[show([a,b]==[42,35])=((a==42)&&(b==35)) by rw[Bool.eq_iff_iff];simp];cases ((a==42)&&(b==35))with
 |false=>rfl
 |true=>
  simp only[if_true];rw[show c3U [c,d] 16 2 256=a1t [c,d] from(c2i [c,d] 2 (Nat.le_refl _) 256 (by decide)).symm];unfold a1t;rw[a5p];cases h:a8E 16 [c,d] 0 with
  |none=>rfl
  |some v=>have hb:=a3a (by decide) a5F [c,d] 0 v (by decide) h;have h2:v<256:=hb.2;simp only[b6I ⟨hb.1,by omega⟩]
theorem c2s(a:UInt8)(s:B)(i:Nat):chB (a::s) (i+1)=chB s i:=rfl
theorem a4k(a:UInt8)(s:B):chB (a::s) 0=(a.toNat:Int):=rfl
theorem q39(s : B)(i : Nat) : (chB s i == 39) = (s[i]? == some 39) := by
 unfold chB
 rw [List.getD_eq_getElem?_getD]
 cases s[i]? with
 |none => rfl
 |some b =>
   simp only [Option.getD_some]
   rw [Bool.eq_iff_iff]
   simp
   constructor
   · intro h; exact UInt8.toNat.inj (by have : b.toNat = 39 := by exact_mod_cast h
                                        rw [this]; rfl)
   · rintro rfl; rfl
def b4H:Tok×Nat:=(zeroK,0)
theorem c06(a:UInt8)(t:B)(h:(decide ((a.toNat:Int)<32)||decide ((a.toNat:Int)>126)||(a==39))=true):O3 (a::t)=(0,0):=by
 have:((a::t==[])||decide (chB (a::t) 0<32)||decide (chB (a::t) 0>126)||(chB (a::t) 0==39))=true:=by rw[q39,a4k];simpa [Bool.or_assoc]using h
 unfold O3;rw[if_pos this]
theorem b03(a:UInt8)(t:B)(h:(decide ((a.toNat:Int)<32)||decide ((a.toNat:Int)>126)||(a==39))=false):((a::t==[])||decide (chB (a::t) 0<32)||decide (chB (a::t) 0>126)||(chB (a::t) 0==39))=false:=by rw[q39,a4k];simpa [Bool.or_assoc]using h
theorem c2C(a:UInt8):((a.toNat:Int) !=42)=(a !=42):=by simpa using a0Q (p:=λa=>((a.toNat:Int) !=42)==(a !=42)) (by decide +kernel) a
theorem c2b(a:UInt8):((a.toNat:Int) !=35)=(a !=35):=by simpa using a0Q (p:=λa=>((a.toNat:Int) !=35)==(a !=35)) (by decide +kernel) a
theorem b4v(a:UInt8)(t:B)(h:(decide ((a.toNat:Int)<32)||decide ((a.toNat:Int)>126)||(a==39))=false)(hs:(a !=42)=true):O3 (a::t)=((a.toNat:Int),1):=by unfold O3;rw[if_neg (by rw[b03 a t h];decide),if_pos (by rw[a4k,c2C];exact hs)];rfl
theorem b0O(t:B):O3 (42::t)=match t with
 | []=>(0,0)
 |b::u=>if decide (esc b>=0)then(chB a2X (esc b).toNat,2)else if(b !=35)||decide (u.length<2)then(0,0)else if !(a1t (u.take 2)).2 then(0,0)else((a1t (u.take 2)).1,4):=by
 unfold O3;rw[if_neg (by rw[b03 42 t (by decide)];decide),if_neg (by rw[a4k];decide)];cases t with
 |nil=>rfl
 |cons b u=>
  rw[if_neg (by simp;omega)];show(if decide (esc b>=0)=true then _ else if((chB (b::u) 0 !=35)||_)=true then _ else if(!(a1t (u.take 2)).2)=true then _ else _)=_;rw[a4k,c2b];have:decide (((42::b::u).length:Int)<4)=decide (u.length<2):=by
   congr 1
   simp;omega
  rw[this];rfl
theorem a4H{q:UInt8}{s:B}{v:Int}{n:Nat}(h:O3 s=(v,n)):a1e (q::s)=if noQ s n then b4H else(⟨4,0,[],v,⟩,n+2):=by unfold a1e;rw[show List.drop 1 (q::s)=s from rfl,h];rfl
theorem a3b{q:UInt8}{s:B}(h:O3 s=(0,0)):a1e (q::s)=b4H:=by rw[a4H h];rfl
theorem b7z(s:B)(n:Nat)(hn:n≠0):noQ s n=!(s[n]?==some 39):=by
 unfold noQ;rw[bne,q39];cases h:s[n]?==some 39 with
 |false=>simp
 |true=>
  have h1:n<s.length:=by
   rcases Nat.lt_or_ge n s.length with h2|h2
   ·exact h2
   ·rw[List.getElem?_eq_none h2]at h;cases h
  simp;omega
theorem b7o(q:UInt8)(s:B):a8U (q::s) =
 if !decide (2<=s.length)then b4H else if(a0I (s.take 1)).2&&(s[1]?==some 39)then(⟨4,0,[],(a0I (s.take 1)).1⟩,3)else
 if !decide (3<=s.length)then b4H else if(a0I (s.take 2)).2&&(s[2]?==some 39)then(⟨4,0,[],(a0I (s.take 2)).1⟩,4)else
 if !decide (4<=s.length)then b4H else if(a0I (s.take 3)).2&&(s[3]?==some 39)then(⟨4,0,[],(a0I (s.take 3)).1⟩,5)else
 if !decide (5<=s.length)then b4H else if(a0I (s.take 4)).2&&(s[4]?==some 39)then(⟨4,0,[],(a0I (s.take 4)).1⟩,6)else b4H:=by
 unfold a8U b0F b0F b0F b0F b0F c8L;simp only[show List.drop 1 (q::s)=s from rfl,show(3-2:Nat)=1 from rfl,show(4-2:Nat)=2 from rfl,show(5-2:Nat)=3 from rfl,show(6-2:Nat)=4 from rfl,c2s,q39];have e:∀n:Nat,decide (((n+1:Nat):Int)<=((q::s).length:Int))=decide (n<=s.length):=λn=>by congr 1;simp
 rw[show((3:Nat):Int)=((2+1:Nat):Int) from rfl,show((4:Nat):Int)=((3+1:Nat):Int) from rfl,show((5:Nat):Int)=((4+1:Nat):Int) from rfl,show((6:Nat):Int)=((5+1:Nat):Int) from rfl,e,e,e,e];rfl
theorem b4y(q:UInt8)(s:B):a8U (q::s) =
 if(a0I (s.take 1)).2&&(s[1]?==some 39)then(⟨4,0,[],(a0I (s.take 1)).1⟩,3)else
 if(a0I (s.take 2)).2&&(s[2]?==some 39)then(⟨4,0,[],(a0I (s.take 2)).1⟩,4)else
 if(a0I (s.take 3)).2&&(s[3]?==some 39)then(⟨4,0,[],(a0I (s.take 3)).1⟩,5)else
 if(a0I (s.take 4)).2&&(s[4]?==some 39)then(⟨4,0,[],(a0I (s.take 4)).1⟩,6)else b4H:=by
 rw[b7o];match s with
 | []=>simp
 | [a]=>simp
 | [a,b]=>simp
 | [a,b,c]=>simp
 | [a,b,c,d]=>simp
 |a::b::c::d::e::s=>simp
theorem c8E(q:UInt8)(s:B):a8U (q::s)=a1e (q::s):=by
 rw[b4y];match s with
 | []=>rfl
 |a::t=>
  cases hb:(decide ((a.toNat:Int)<32)||decide ((a.toNat:Int)>126)||(a==39))with
  |true=>
   have hs:(a==42)=false:=by
    cases hs:a==42 with
    |false=>rfl
    |true=>rw[eq_of_beq hs]at hb;revert hb;decide
   have e1:a0I [a]=(0,false):=by
    rw[b5k];have:(decide ((a.toNat:Int)>=32)&&decide ((a.toNat:Int)<=126)&&(a !=39)&&(a !=42))=false:=by
     simp only[Bool.or_eq_true,decide_eq_true_eq]at hb;rcases hb with(hb|hb)|hb
     ·rw[show decide ((a.toNat:Int)>=32)=false by simp;omega];rfl
     ·rw[show decide ((a.toNat:Int)<=126)=false by simp;omega,Bool.and_false];rfl
     ·rw[bne,hb];simp
    rw[this];rfl
   rw[a3b (c06 a t hb)];match t with
   | []=>simp[e1]
   | [b]=>simp[e1,a1Q,hs]
   | [b,c]=>simp[e1,a1Q,T0,hs]
   |b::c::d::t=>simp[e1,a1Q,T0,a2y,hs]
  |false=>
   cases hs:a !=42 with
   |true=>
    have hs':(a==42)=false:=by simpa [bne]using hs
    have e1:a0I [a]=((a.toNat:Int),true):=by
     rw[b5k];have:(decide ((a.toNat:Int)>=32)&&decide ((a.toNat:Int)<=126)&&(a !=39)&&(a !=42))=true:=by simp only[Bool.or_eq_false_iff,decide_eq_false_iff_not]at hb;rw[hs,bne,hb.2];simp;omega
     rw[this];rfl
    rw[a4H (b4v a t hb hs),b7z _ _ (by decide)];match t with
    | []=>simp[e1]
    | [b]=>simp[e1,a1Q,hs']
    | [b,c]=>simp[e1,a1Q,T0,hs']
    |b::c::d::t=>simp[e1,a1Q,T0,a2y,hs']
   |false=>
    have e:a=42:=by simpa using hs
    subst e;have e1:a0I [42]=(0,false):=by decide
    match t with
    | []=>rfl
    |b::u=>
     cases hE:decide (esc b>=0)with
     |true=>
      have hC:O3 (42::b::u)=(chB a2X (esc b).toNat,2):=by rw[b0O];simp only[hE,if_true]
      rw[a4H hC,b7z _ _ (by decide)];have h35:(b==35)=false:=by
       cases h:b==35 with
       |false=>rfl
       |true=>rw[eq_of_beq h]at hE;revert hE;decide
      have e2:a0I [42,b]=(chB a2X (esc b).toNat,true):=by rw[a1Q,hE];rfl
      match u with
      | []=>simp[e1,e2]
      | [c]=>simp[e1,e2,T0]
      |c::d::u=>simp[e1,e2,T0,a2y,h35]
     |false=>
      have e2:a0I [42,b]=(0,false):=by rw[a1Q,hE];rfl
      have hC:O3 (42::b::u)=if(b !=35)||decide (u.length<2)then(0,0)else if !(a1t (u.take 2)).2 then(0,0)else((a1t (u.take 2)).1,4):=by rw[b0O];simp only[hE,Bool.false_eq_true,if_false]
      match u with
      | []=>rw[a3b (hC.trans (by simp))];simp[e1,e2]
      | [c]=>rw[a3b (hC.trans (by simp))];simp[e1,e2,T0]
      |c::d::u=>
       cases h35:b==35 with
       |false=>rw[a3b (hC.trans (by simp[bne,h35]))];simp[e1,e2,T0,a2y,h35]
       |true=>
        have h35':(b !=35)=false:=by rw[bne,h35];rfl
        cases hx:(a1t [c,d]).2 with
        |false=>rw[a3b (hC.trans (by simp[h35',hx]))];simp[e1,e2,T0,a2y,h35,hx]
        |true=>rw[a4H (v:=(a1t [c,d]).1) (n:=4) (hC.trans (by simp[h35',hx])),b7z _ _ (by decide)];simp[e1,e2,T0,a2y,h35,hx]
theorem b5d:∀(l:B),run (l.take (run l))=run l
 | []=>rfl
 |c::l=>by
  have e:run (c::l)=if wch c then run l+1 else 0:=rfl
  cases hw:wch c with
  |false=>rw[e,hw];rfl
  |true=>rw[e,hw];simp only[if_true,List.take_succ_cons];show(if wch c then run (l.take (run l))+1 else 0)=_;rw[hw,b5d l];rfl
theorem b3z(l:B):(l.take (run l)).length=run l:=by rw[List.length_take];have:=a6H l;omega
theorem c5i{c:UInt8}(h:ltr c.toNat=true):wch c=true:=by unfold wch;rw[h];rfl
theorem b45{c:UInt8}{l:B}(h:wch c=true):run (c::l)=1+run l:=by show(if wch c then run l+1 else 0)=_;rw[h,Nat.add_comm];rfl
theorem b9r{c:UInt8}{l:B}(h:ltr c.toNat=true)(hk:key ((c::l).take (run (c::l)))=false):name ((c::l).take (run (c::l)))=!decide ((run (c::l):Int)>32):=by
 have e1:=b5d (c::l);have e2:=b3z (c::l);have e3:(c::l).take (run (c::l))=c::l.take (run l):=by rw[b45 (c5i h),Nat.add_comm];rfl
 unfold name;rw[e1,e2,hk,e3];simp only[h];simp;rw[<-decide_not];congr 1
 simp
end
end Go.Lx
section
namespace Go.Xp
open Go.Eng Go
def a4U(e:Ex)(f:Bool)(n o t v:Int)(s:B):Bool:=(((((f&&((e.l.length:Int)==n))&&(e.o==o))&&(e.t==t))&&(e.n==v))&&(e.s==s))
def a3k(e:Ex):Bool:=(D5 e).2&&((e.l.length:Int)==(D5 e).1)
theorem c9k{n:Int}(h:-2147483648<=n/\n<=2147483647):(a6j .i32 n 8=0)↔(0<=n/\n<=255):=by unfold a6j;rw[Int.fdiv_eq_ediv_of_nonneg _ (by decide)];simp[IntKind.bits];omega
theorem c9F{n:Int}(h:-2147483648<=n/\n<=2147483647):(a6j .i32 n 1=0)↔(0<=n/\n<=1):=by unfold a6j;rw[Int.fdiv_eq_ediv_of_nonneg _ (by decide)];simp[IntKind.bits];omega
theorem b5N{o:Int}(h:23<=o/\o<=255):IntKind.u8.wrap (o-23)=o-23:=by unfold IntKind.wrap;simp[IntKind.bits,IntKind.signed];omega
theorem c5f{e:Ex}(h:e.k=1):a3k e=a4U e true 0 0 0 e.n []:=by simp only[a3k,a4U,D5,fin,h];rw[Bool.eq_iff_iff];simp;constructor<;>(intro h;simp_all)
theorem c0z{e:Ex}(hn:-2147483648<=e.n/\e.n<=2147483647)(h:e.k=2):a3k e=a4U e (decide (e.n>=0)&&decide (e.n<=255)) 0 0 0 e.n []:=by
 have h8:=c9k hn;simp only[a3k,a4U,D5,fin,h];by_cases hb:a6j .i32 e.n 8=0
 ·have:=h8.1 hb
  rw[Bool.eq_iff_iff];simp[hb,this.1,this.2];constructor<;>(intro h;simp_all)
 ·have h9:¬(0<=e.n/\e.n<=255):=λq=>hb (h8.2 q)
  rw[Bool.eq_iff_iff];simp[hb];intros;omega
theorem c3z{e:Ex}(hn:-2147483648<=e.n/\e.n<=2147483647)(h:e.k=3):a3k e=a4U e ((e.n==0)||(e.n==1)) 0 0 0 e.n []:=by
 have h8:=c9F hn;simp only[a3k,a4U,D5,fin,h];by_cases hb:a6j .i32 e.n 1=0
 ·have:=h8.1 hb
  have h10:e.n=0\/e.n=1:=by omega
  rw[Bool.eq_iff_iff];simp[hb,h10];constructor<;>(intro h;simp_all)
 ·have h9:¬(0<=e.n/\e.n<=1):=λq=>hb (h8.2 q)
  have h10:¬(e.n=0\/e.n=1):=by omega
  rw[Bool.eq_iff_iff];simp[hb];intros;omega
theorem b5C{e:Ex}(h:e.k=4\/e.k=9):a3k e=a4U e (Go.Lx.nameR e.s) 0 0 0 0 e.s:=by
 rw[<-Go.Lx.name_eq];rcases h with h|h <;>
 ·simp only[a3k,a4U,D5,fin,h]
  cases Go.Lx.name e.s
  ·simp
  ·rw[Bool.eq_iff_iff]
   simp;constructor<;>(intro h;simp_all)
theorem b9w{e:Ex}(h:e.k=5):a3k e=a4U e (Go.Lx.nameR e.s) 1 0 0 0 e.s:=by
 rw[<-Go.Lx.name_eq];simp only[a3k,a4U,D5,fin,h];cases Go.Lx.name e.s
 ·simp
 ·rw[Bool.eq_iff_iff]
  simp;constructor<;>(intro h;simp_all)
theorem c4A{e:Ex}(ho:0<=e.o/\e.o<=255)(h:e.k=6):a3k e=a4U e (decide (e.o>=23)&&decide (e.o<=26)) 1 e.o 0 0 []:=by
 simp only[a3k,a4U,D5,fin,h];by_cases h1:e.o<23
 ·rw[Bool.eq_iff_iff]
  simp[h1];intros;omega
 ·have h2:=b5N (o:=e.o) (by omega)
  rw[h2,Bool.eq_iff_iff];by_cases h3:e.o<=26
  ·have h4:23<=e.o:=by omega
   have h5:¬4<=e.o-23:=by omega
   simp[h1,h3,h4,h5];constructor<;>(intro h;simp_all)
  ·have h5:4<=e.o-23:=by omega
   simp[h1,h3,h5]
theorem c4x{e:Ex}(h:e.k=7):a3k e=a4U e (decide (e.o>=1)&&decide (e.o<=22)) 2 e.o 0 0 []:=by
 simp only[a3k,a4U,D5,fin,h];by_cases h1:e.o<1
 ·rw[Bool.eq_iff_iff]
  simp[h1];intros;omega
 ·by_cases h3:e.o<=22
  ·have h4:1<=e.o:=by omega
   have h5:¬22<e.o:=by omega
   rw[Bool.eq_iff_iff];simp[h1,h3,h4,h5];constructor<;>(intro h;simp_all)
  ·have h5:22<e.o:=by omega
   rw[Bool.eq_iff_iff];simp[h1,h3,h5]
theorem c3d{e:Ex}(h:e.k=8):a3k e=a4U e (((e.t==1)||(e.t==2))||(e.t==3)) 1 0 e.t 0 []:=by
 simp only[a3k,a4U,D5,fin,h,N0];rw[Bool.eq_iff_iff];by_cases h1:e.t=1
 ·simp[h1]
  constructor<;>(intro h;simp_all)
 ·by_cases h2:e.t=2
  ·simp[h2]
   constructor<;>(intro h;simp_all)
  ·by_cases h3:e.t=3
   ·simp[h3]
    constructor<;>(intro h;simp_all)
   ·simp[h1,h2,h3]
theorem c1e{e:Ex}(h1:e.k≠1)(h2:e.k≠2)(h3:e.k≠3)(h4:e.k≠4)(h9:e.k≠9)(h5:e.k≠5)(h6:e.k≠6)(h7:e.k≠7)(h8:e.k≠8):a3k e=false:=by simp[a3k,D5,h1,h2,h3,h4,h5,h6,h7,h8,h9]
theorem b9I{e:Ex}{a b:Int}(ha:0<=a/\a<=32)(hb:0<=b):a5r (a+1) b e=((a==32)||(b==0)||!(a3k e)):=by
 unfold a5r a3k;have h1:decide (b-1<0)=(b==0):=by rw[Bool.eq_iff_iff];simp;omega
 have h2:decide (a+1>32)=(a==32):=by rw[Bool.eq_iff_iff];simp;omega
 rw[h1,h2];cases (D5 e).2<;>cases (a==32)<;>cases (b==0)<;>simp[bne]
end Go.Xp
namespace Go.Xp
open Go.Eng Go
open Go.Ty (Tok A3)
def B9(s:B):Tok:=⟨5,0,s,0⟩
def L7(s:B):Tok:=⟨2,0,s,0⟩
def C9(s:B):Tok:=⟨1,0,s,0⟩
def a6D(n:Int):Tok:=⟨3,0,[],n⟩
def a2o(n:Int):Tok:=⟨4,0,[],n⟩
def D7(s:B):Tok:=if Go.Lx.key s then L7 s else B9 s
def G2(o:Int):Tok:=D7 (X2 o).1
def par(k:Int):Bool:=(((k==6)||(k==7))||(k==8))||(k==9)
def N4(p:Bool×List Tok):List Tok:=if p.1 then B9 [40]::(p.2++[B9 [41]])else p.2
def wr(k o t n:Int)(s:B)(ws:List (Bool×List Tok)):List Tok:=
 if k=1 then[a6D n]else if k=2 then[a2o n]else if k=3 then(if n=0 then[D7 [70,65,76,83,69]]else[D7 [84,82,85,69]])
 else if k=4 then[C9 s]else if k=9 then[D7 [83,73,90,69],C9 s]else if k=5 then C9 s::B9 [91]::((ws.getD 0 (false,[])).2++[B9 [93]])
 else if k=6 then G2 o::N4 (ws.getD 0 (false,[]))else if k=8 then D7 (N0 t)::N4 (ws.getD 0 (false,[]))
 else N4 (ws.getD 0 (false,[]))++G2 o::N4 (ws.getD 1 (false,[]))
mutual
def A8:Ex->List Tok
 | .mk k o t n s _ _ l=>wr k o t n s (P3 l)
def P3:List Ex->List (Bool×List Tok)
 | []=>[]
 |x::r=>(par x.k,A8 x)::P3 r
end
def B7(e:Ex):List Tok:=N4 (par e.k,A8 e)
theorem G1(e:Ex):A8 e=wr e.k e.o e.t e.n e.s (P3 e.l):=by cases e;rfl
inductive Fine:Ex->Prop
 |mk {e:Ex} (h1:(D5 e).2=true) (h2:(e.l.length:Int)=(D5 e).1) (h3:∀x∈e.l,Fine x):Fine e
theorem Fine.ok{e:Ex}(g:Fine e):(D5 e).2=true:=by cases g;assumption
theorem Fine.num{e:Ex}(g:Fine e):(e.l.length:Int)=(D5 e).1:=by cases g;assumption
theorem Fine.part{e x:Ex}(g:Fine e)(hx:x∈e.l):Fine x:=by cases g with|mk h1 h2 h3=>exact h3 x hx
theorem b7C(e:Ex):∀(deep left q:Int),L3 deep left e=some q->Fine e/\(a3i e:Int)=left-q:=by
 refine Ex.ind (p:=λe=>∀(deep left q:Int),L3 deep left e=some q->Fine e/\(a3i e:Int)=left-q) (λe ih deep left q hq=>?_) e;rw[a2z]at hq;split at hq
 ·cases hq
 ·rename_i hh
  have hb:=a8Q (by simpa using hh);have key:∀(l:List Ex),(∀x∈l,x∈e.l)->∀z,a0C (deep+1) z l=some q->(∀x∈l,Fine x)/\(a1O l:Int)=z-q:=by
   intro l;induction l with
   |nil=>intro _ z h;cases h;exact⟨λx hx=>(List.not_mem_nil hx).elim,by simp[a1O]⟩
   |cons x r ihr=>
    intro hm z h;unfold a0C at h;split at h
    ·rename_i p hp
     have h1:=ih x (hm x (by simp)) _ _ _ hp;have h2:=ihr (λy hy=>hm y (by simp[hy])) p h;refine⟨λy hy=>?_,by unfold a1O;omega⟩;rcases List.mem_cons.1 hy with rfl|hy
     ·exact h1.1
     ·exact h2.1 y hy
    ·cases h
  have hk:=key e.l (λ_ h=>h) (left-1) hq;have hc:=a0b e;exact⟨.mk hb.1.1 hb.2.2 hk.1,by omega⟩
theorem a46{e:Ex}(h:F8 e=true):Fine e/\a3i e<=256:=by obtain⟨q,hq⟩:=Option.isSome_iff_exists.1 h;have h1:=b7C e 1 256 q hq;have h2:=a4m e 1 256 q (by decide) hq;exact⟨h1.1,by omega⟩
theorem a0W{e:Ex}(g:Fine e):e.k=1\/e.k=2\/e.k=3\/e.k=4\/e.k=9\/e.k=5\/e.k=6\/e.k=7\/e.k=8:=by
 have h:=g.ok;unfold D5 at h;by_cases h1:e.k=1
 ·simp[h1]
 by_cases h2:e.k=2
 ·simp[h2]
 by_cases h3:e.k=3
 ·simp[h3]
 by_cases h4:e.k=4
 ·simp[h4]
 by_cases h9:e.k=9
 ·simp[h9]
 by_cases h5:e.k=5
 ·simp[h5]
 by_cases h6:e.k=6
 ·simp[h6]
 by_cases h7:e.k=7
 ·simp[h7]
 by_cases h8:e.k=8
 ·simp[h8]
 simp[h1,h2,h3,h4,h5,h6,h7,h8,h9]at h
theorem a6f{e:Ex}(hn:-2147483648<=e.n/\e.n<=2147483647)(g:Fine e)(h:e.k=3):e.n=0\/e.n=1:=by
 have h1:=g.ok;unfold D5 at h1;simp only[h]at h1;by_cases hb:a6j .i32 e.n 1=0
 ·have:=(c9F hn).1 hb
  omega
 ·simp[hb]at h1
theorem R0{e:Ex}(g:Fine e)(h:e.k=5\/e.k=6\/e.k=8):∃x,e.l=[x]:=by
 have h1:=g.ok;have h2:=g.num;have:(D5 e).1=1:=by unfold D5 at h1⊢;rcases h with h|h|h<;>simp only[h]at h1⊢ <;> (revert h1;simp)<;>split<;>simp
 rw[this]at h2;match hl:e.l with
 | [x]=>exact⟨x,rfl⟩
 | []=>rw[hl]at h2;simp at h2
 |_::_::_=>rw[hl]at h2;simp at h2;omega
theorem a4b{e:Ex}(g:Fine e)(h:e.k=7):∃x y,e.l=[x,y]:=by
 have h1:=g.ok;have h2:=g.num;have:(D5 e).1=2:=by
  unfold D5 at h1⊢;simp only[h]at h1⊢;revert h1
  simp;split<;>simp
 rw[this]at h2;match hl:e.l with
 | [x,y]=>exact⟨x,y,rfl⟩
 | []=>rw[hl]at h2;simp at h2
 | [_]=>rw[hl]at h2;simp at h2
 |_::_::_::_=>rw[hl]at h2;simp at h2;omega
theorem a0y(p:Bool×List Tok):(N4 p).length<=p.2.length+2:=by unfold N4;split<;>simp
theorem X7(e:Ex)(g:Fine e):(A8 e).length<=5*a3i e-2:=by
 revert g
 refine Ex.ind (p:=λe=>Fine e->(A8 e).length<=5*a3i e-2) (λe ih g=>?_) e;rw[G1];have hc:=a0b e;rcases a0W g with h|h|h|h|h|h|h|h|h
 ·simp[wr,h];omega
 ·simp[wr,h];omega
 ·simp only[wr,h]
  simp;split<;>simp<;>omega
 ·simp[wr,h];omega
 ·simp[wr,h];omega
 ·obtain⟨x,hx⟩:=R0 g (.inl h)
  have:=ih x (by simp[hx]) (g.part (by simp[hx]));have hcx:=a0b x;rw[hx]at hc;simp[a1O]at hc;simp[wr,h,hx,P3];omega
 ·obtain⟨x,hx⟩:=R0 g (.inr (.inl h))
  have:=ih x (by simp[hx]) (g.part (by simp[hx]));have h2:=a0y (par x.k,A8 x);have hcx:=a0b x;rw[hx]at hc;simp[a1O]at hc;simp[wr,h,hx,P3]at h2⊢;omega
 ·obtain⟨x,y,hx⟩:=a4b g h
  have h1:=ih x (by simp[hx]) (g.part (by simp[hx]));have h2:=ih y (by simp[hx]) (g.part (by simp[hx]));have h3:=a0y (par x.k,A8 x);have h4:=a0y (par y.k,A8 y);have hcx:=a0b x;have hcy:=a0b y;rw[hx]at hc;simp[a1O]at hc;simp[wr,h,hx,P3]at h3 h4⊢;omega
 ·obtain⟨x,hx⟩:=R0 g (.inr (.inr h))
  have:=ih x (by simp[hx]) (g.part (by simp[hx]));have h2:=a0y (par x.k,A8 x);have hcx:=a0b x;rw[hx]at hc;simp[a1O]at hc;simp[wr,h,hx,P3]at h2⊢;omega
end Go.Xp
namespace Go.Xp
open Go.Eng Go
open Go.Ty (Tok A3)
open Go.Lx (J7)
instance:DecidableEq Tok:=λt u=>decidable_of_iff (Go.Ty.eqK t u=true) (Go.Ty.eqK_iff t u)
def zeroT:Tok:=⟨0,0,[],0⟩
def D9:List Tok->Tok
 | []=>zeroT
 |t::_=>if J7 t then { t with at_:=0 }else zeroT
abbrev a1A:=Except Int (Ex×List Tok)
def sx(k o t n:Int)(s:B)(l:List Ex):Ex:=.mk k o t n s none 0 l
mutual
def C6:Ex->Ex
 | .mk k o t n s _ _ l=>.mk k o t n s none 0 (b3l l)
def b3l:List Ex->List Ex
 | []=>[]
 |x::r=>C6 x::b3l r
end
def opF(t:Tok):Nat->Nat->Nat
 |0,_=>0
 |n+1,o=>if t=G2 o then o else opF t n (o+1)
def a1r(t:Tok):Nat:=if t=D7 (N0 1)then 1 else if t=D7 (N0 2)then 2 else if t=D7 (N0 3)then 3 else 0
def V1(ins:B->B->List Tok->a1A)(ts:List Tok):a1A:=
 let t:=D9 ts
 if t.kind=3 then .ok (sx 1 0 0 t.n [] [],ts.tail)else if t.kind=4 then .ok (sx 2 0 0 t.n [] [],ts.tail)
 else if t=D7 [70,65,76,83,69]then .ok (sx 3 0 0 0 [] [],ts.tail)else if t=D7 [84,82,85,69]then .ok (sx 3 0 0 1 [] [],ts.tail)
 else if t.kind=1 then(if D9 ts.tail=B9 [91]then(match ins [91] [93] ts.tail with
  | .ok (x,r)=>.ok (sx 5 0 0 0 t.text [x],r)
  | .error e=>.error e)else .ok (sx 4 0 0 0 t.text [],ts.tail))
 else if t=B9 [40]then ins [40] [41] ts else .error 100
def unQ(mk:Ex->Ex)(p:a1A):a1A:=match p with
 | .ok (x,r)=>.ok (mk x,r)
 | .error e=>.error e
def a2b(ins:B->B->List Tok->a1A)(ts:List Tok):a1A:=
 let t:=D9 ts
 if t=D7 [83,73,90,69]then(if(D9 ts.tail).kind=1 then .ok (sx 9 0 0 0 (D9 ts.tail).text [],ts.tail.tail)else .error 100)
 else if a1r t≠0 then unQ (λx=>sx 8 0 (a1r t) 0 [] [x]) (V1 ins ts.tail)
 else if opF t 4 23≠0 then unQ (λx=>sx 6 (opF t 4 23) 0 0 [] [x]) (V1 ins ts.tail)
 else match V1 ins ts with
  | .error e=>.error e
  | .ok (a,r)=>if opF (D9 r) 22 1≠0 then unQ (λb=>sx 7 (opF (D9 r) 22 1) 0 0 [] [a,b]) (V1 ins r.tail)else .ok (a,r)
def a04:Nat->B->B->List Tok->a1A
 |0,_,_,_=>.error 3
 |f+1,o,s,ts=>if D9 ts=B9 o then(match a2b (a04 f) ts.tail with
  | .error e=>.error e
  | .ok (x,r)=>if D9 r=B9 s then .ok (x,r.tail)else .error 100)else .error 100
def b2f(ts:List Tok):a1A:=a2b (a04 32) ts
def U9(ts:List Tok):Except Int (Ex×Nat):=match b2f ts with
 | .error e=>.error e
 | .ok (x,r)=>if F8 x then .ok (x,ts.length-r.length)else .error 3
theorem a5V(t:Tok)(r:List Tok):D9 (t::r)=if J7 t then { t with at_:=0 }else zeroT:=rfl
theorem b9X{ts:List Tok}(h:(D9 ts).kind≠0):ts≠[]:=by rintro rfl;exact h rfl
theorem c0p(l:List Ex):b3l l=l.map C6:=by
 induction l with
 |nil=>rfl
 |cons x r ih=>rw[b3l,ih];rfl
theorem c3W(e:Ex):(C6 e).k=e.k:=by cases e;rfl
theorem a0d(s:B):(D7 s).kind=2\/(D7 s).kind=5:=by
 unfold D7;split
 ·exact .inl rfl
 ·exact .inr rfl
theorem c5c{k:Nat}{l:List Tok}(h:l.drop k≠[]):k<l.length:=by
 rcases Nat.lt_or_ge k l.length with h1|h1
 ·exact h1
 ·exact absurd (List.drop_eq_nil_of_le h1) h
theorem a9A{t:Tok}:∀{n o:Nat},opF t n o≠0->t.kind≠0
 |0,_,h=>absurd rfl h
 |n+1,o,h=>by
  unfold opF at h;split at h
  ·rename_i q
   rw[q];unfold G2;rcases a0d (X2 o).1 with h|h<;>rw[h]<;>decide
  ·exact a9A h
theorem b7x(t:Tok):∀(n o:Nat),opF t n o≠0->o<=opF t n o/\opF t n o<o+n
 |0,_,h=>absurd rfl h
 |n+1,o,h=>by
  unfold opF at h⊢;split at h
  ·rename_i q
   rw[if_pos q];omega
  ·rename_i q
   rw[if_neg q];have:=b7x t n (o+1) h;omega
end Go.Xp
namespace Go.Xp
open Go.Eng Go
open Go.Ty (Tok A3)
theorem a0p(e:Ex):C6 e=.mk e.k e.o e.t e.n e.s none 0 (e.l.map C6):=by
 cases e with
 |mk k o t n s a c l=>rw[C6,c0p];rfl
theorem b4w(e:Ex):D5 (C6 e)=D5 e:=by rw[a0p];rfl
theorem c0d(e:Ex):(C6 e).l.length=e.l.length:=by rw[a0p];exact List.length_map _
theorem b6k(deep left:Int)(e:Ex):a5r deep left (C6 e)=a5r deep left e:=by unfold a5r;rw[b4w,c0d]
theorem b8J(e:Ex):(C6 e).l=e.l.map C6:=by rw[a0p];rfl
theorem b4f(e:Ex):∀(deep left:Int),L3 deep left (C6 e)=L3 deep left e:=by
 refine Ex.ind (p:=λe=>∀(deep left:Int),L3 deep left (C6 e)=L3 deep left e) (λe ih deep left=>?_) e;rw[a2z,a2z,b6k,b8J];have key:∀(l:List Ex),(∀x∈l,x∈e.l)->∀z,a0C (deep+1) z (l.map C6)=a0C (deep+1) z l:=by
  intro l;induction l with
  |nil=>intro _ z;rfl
  |cons x r ihr=>
   intro hm z;rw[List.map_cons];unfold a0C;rw[ih x (hm x (by simp))];split
   ·exact ihr (λy hy=>hm y (by simp[hy])) _
   ·rfl
 rw[key e.l λ_ h=>h]
theorem U7(e:Ex):F8 (C6 e)=F8 e:=by unfold F8;rw[b4f]
theorem b4z(e:Ex):A8 (C6 e)=A8 e:=by
 refine Ex.ind (p:=λe=>A8 (C6 e)=A8 e) (λe ih=>?_) e;rw[G1,G1,b8J,a0p];have key:∀(l:List Ex),(∀x∈l,x∈e.l)->P3 (l.map C6)=P3 l:=by
  intro l;induction l with
  |nil=>intro _;rfl
  |cons x r ihr=>intro hm;rw[List.map_cons];unfold P3;rw[ih x (hm x (by simp)),c3W,ihr λy hy=>hm y (by simp[hy])]
 rw[key e.l λ_ h=>h];rfl
theorem a0K(x:Ex):∀y:Ex,(E5 x y=true↔C6 x=C6 y):=by
 refine Ex.ind (p:=λx=>∀y:Ex,(E5 x y=true↔C6 x=C6 y)) (λx ih y=>?_) x;have key:∀(l q:List Ex),(∀x'∈l,x'∈x.l)->l.length=q.length->(a1R l q=true↔l.map C6=q.map C6):=by
  intro l;induction l with
  |nil=>
   intro q _ hl;match q with
   | []=>simp[a1R]
   |_::_=>simp at hl
  |cons u r ihr=>
   intro q hm hl;match q with
   | []=>simp at hl
   |v::w=>have h1:=ih u (hm u (by simp)) v;have h2:=ihr w (λz hz=>hm z (by simp[hz])) (by simpa using hl);unfold a1R;rw[Bool.and_eq_true,h1,h2,List.map_cons,List.map_cons,List.cons.injEq]
 rw[a6V,a0p x,a0p y];constructor
 ·intro h
  rw[Bool.and_eq_true]at h;obtain⟨hb,hl⟩:=h;unfold a9y at hb;simp only[Bool.not_eq_true',Bool.or_eq_false_iff,bne_eq_false_iff_eq]at hb;obtain⟨⟨⟨⟨⟨h1,h2⟩,h3⟩,h4⟩,h5⟩,h6⟩:=hb;have h7:=(key x.l y.l (λ_ h=>h) (by omega)).1 hl;rw[h1,h2,h3,h4,h5,h7]
 ·intro h
  injection h with h1 h2 h3 h4 h5 h6 h7 h8
  have h9:x.l.length=y.l.length:=by simpa using congrArg List.length h8
  have h10:=(key x.l y.l (λ_ h=>h) h9).2 h8;rw[h10];unfold a9y;rw[h1,h2,h3,h4,h5,h9];simp
def A2:Ex:=.mk 0 0 0 0 [] none 0 []
def a9U(ts:List Tok):Ex:=match U9 ts with
 | .ok (x,_)=>x
 | .error _=>A2
def a1f(ts:List Tok):Nat:=match U9 ts with
 | .ok (_,k)=>k
 | .error _=>0
def a6w(ts:List Tok):Int:=match U9 ts with
 | .ok _=>0
 | .error e=>e
def C2(e:Ex):List Tok:=if F8 e then A8 e else[]
def b3h(e:Ex):Int:=if F8 e then 0 else 2
theorem a0e(e:Ex):C2 (C6 e)=C2 e:=by unfold C2;rw[U7,b4z]
theorem a4E(s:B):(D7 s).at_=0:=by unfold D7;split<;>rfl
end Go.Xp
end
section
namespace Go.Pc
open Go.Eng Go.Xp Go
open Go.Ty (Ty Vr I7 encV PrOk)
open Go.Lx (encB)
abbrev B:=List UInt8
structure Sli(α:Type) where
 a:Option Addr
 c:Nat
 l:List α
def Sli.v{α:Type}(s:Sli α):Value:=.slice s.a s.l.length s.c
def B0{α:Type}:Sli α:=⟨none,0,[]⟩
structure Rp where
 name:B
 base:Ex
 count:Ex
structure Fo where
 val:Bool
 ty:Ty
 name:B
mutual
inductive Pr where
 |mk (k:Int) (name:B) (ch:Ex) (tg ex:Sli Ex) (rep:Rp) (ga:Option Addr) (gc:Nat) (gl:List Gu) (la:Option Addr) (lc:Nat) (ll:List Pr) (pn:Sli Int) (sp:Sp)
inductive Gu where
 |mk (k:Int) (name:B) (cond ch:Ex) (tg vl:Sli Ex) (time:Ex) (ba:Option Addr) (bc:Nat) (bl:List Pr)
inductive Sp where
 |mk (k:Int) (ty:Ty) (names:Sli B) (e:Ex) (cs:Bool) (vs:Sli Vr) (fs:Sli Fo) (ba:Option Addr) (bc:Nat) (bl:List Pr)
end
namespace Sp
def k:Sp->Int|mk k _ _ _ _ _ _ _ _ _=>k
def ty:Sp->Ty|mk _ t _ _ _ _ _ _ _ _=>t
def names:Sp->Sli B|mk _ _ n _ _ _ _ _ _ _=>n
def e:Sp->Ex|mk _ _ _ e _ _ _ _ _ _=>e
def cs:Sp->Bool|mk _ _ _ _ c _ _ _ _ _=>c
def vs:Sp->Sli Vr|mk _ _ _ _ _ v _ _ _ _=>v
def fs:Sp->Sli Fo|mk _ _ _ _ _ _ f _ _ _=>f
def ba:Sp->Option Addr|mk _ _ _ _ _ _ _ a _ _=>a
def bc:Sp->Nat|mk _ _ _ _ _ _ _ _ c _=>c
def bl:Sp->List Pr|mk _ _ _ _ _ _ _ _ _ l=>l
end Sp
namespace Gu
def k:Gu->Int|mk k _ _ _ _ _ _ _ _ _=>k
def name:Gu->B|mk _ n _ _ _ _ _ _ _ _=>n
def cond:Gu->Ex|mk _ _ e _ _ _ _ _ _ _=>e
def ch:Gu->Ex|mk _ _ _ e _ _ _ _ _ _=>e
def tg:Gu->Sli Ex|mk _ _ _ _ t _ _ _ _ _=>t
def vl:Gu->Sli Ex|mk _ _ _ _ _ v _ _ _ _=>v
def time:Gu->Ex|mk _ _ _ _ _ _ e _ _ _=>e
def ba:Gu->Option Addr|mk _ _ _ _ _ _ _ a _ _=>a
def bc:Gu->Nat|mk _ _ _ _ _ _ _ _ c _=>c
def bl:Gu->List Pr|mk _ _ _ _ _ _ _ _ _ l=>l
end Gu
namespace Pr
def k:Pr->Int|mk k _ _ _ _ _ _ _ _ _ _ _ _ _=>k
def name:Pr->B|mk _ n _ _ _ _ _ _ _ _ _ _ _ _=>n
def ch:Pr->Ex|mk _ _ e _ _ _ _ _ _ _ _ _ _ _=>e
def tg:Pr->Sli Ex|mk _ _ _ t _ _ _ _ _ _ _ _ _ _=>t
def ex:Pr->Sli Ex|mk _ _ _ _ e _ _ _ _ _ _ _ _ _=>e
def rep:Pr->Rp|mk _ _ _ _ _ r _ _ _ _ _ _ _ _=>r
def ga:Pr->Option Addr|mk _ _ _ _ _ _ a _ _ _ _ _ _ _=>a
def gc:Pr->Nat|mk _ _ _ _ _ _ _ c _ _ _ _ _ _=>c
def gl:Pr->List Gu|mk _ _ _ _ _ _ _ _ l _ _ _ _ _=>l
def la:Pr->Option Addr|mk _ _ _ _ _ _ _ _ _ a _ _ _ _=>a
def lc:Pr->Nat|mk _ _ _ _ _ _ _ _ _ _ c _ _ _=>c
def ll:Pr->List Pr|mk _ _ _ _ _ _ _ _ _ _ _ l _ _=>l
def pn:Pr->Sli Int|mk _ _ _ _ _ _ _ _ _ _ _ _ p _=>p
def sp:Pr->Sp|mk _ _ _ _ _ _ _ _ _ _ _ _ _ s=>s
end Pr
def a3G(n:Int):List Value:=[.int .i64 n]
theorem a4a(n:Int):(a3G n).length=1:=rfl
set_option linter.defProp false in
@[reducible,instance]def iencN_len:=Go.Eng.Ln.mk a4a (by decide)
def foE(f:Fo):List Value:=[.bool f.val,.int .u8 f.ty.kind,.int .i64 f.ty.dim,.int .u8 f.ty.item,str f.ty.proto,str f.name]
theorem a2w(f:Fo):(foE f).length=6:=rfl
set_option linter.defProp false in
@[reducible,instance]def ifoE_len:=Go.Eng.Ln.mk a2w (by decide)
def rpE(r:Rp):List Value:=[str r.name,.int .u8 r.base.k,.int .u8 r.base.o,.int .u8 r.base.t,.int .i32 r.base.n,str r.base.s,.slice r.base.a r.base.l.length r.base.c,
 .int .u8 r.count.k,.int .u8 r.count.o,.int .u8 r.count.t,.int .i32 r.count.n,str r.count.s,.slice r.count.a r.count.l.length r.count.c]
def spE(s:Sp):List Value:=[.int .u8 s.k,.int .u8 s.ty.kind,.int .i64 s.ty.dim,.int .u8 s.ty.item,str s.ty.proto,.slice s.names.a s.names.l.length s.names.c,
 .int .u8 s.e.k,.int .u8 s.e.o,.int .u8 s.e.t,.int .i32 s.e.n,str s.e.s,.slice s.e.a s.e.l.length s.e.c,.bool s.cs,.slice s.vs.a s.vs.l.length s.vs.c,.slice s.fs.a s.fs.l.length s.fs.c,.slice s.ba s.bl.length s.bc]
def guE(g:Gu):List Value:=[.int .u8 g.k,str g.name,.int .u8 g.cond.k,.int .u8 g.cond.o,.int .u8 g.cond.t,.int .i32 g.cond.n,str g.cond.s,.slice g.cond.a g.cond.l.length g.cond.c,
 .int .u8 g.ch.k,.int .u8 g.ch.o,.int .u8 g.ch.t,.int .i32 g.ch.n,str g.ch.s,.slice g.ch.a g.ch.l.length g.ch.c,.slice g.tg.a g.tg.l.length g.tg.c,.slice g.vl.a g.vl.l.length g.vl.c,
 .int .u8 g.time.k,.int .u8 g.time.o,.int .u8 g.time.t,.int .i32 g.time.n,str g.time.s,.slice g.time.a g.time.l.length g.time.c,.slice g.ba g.bl.length g.bc]
theorem a1J(g:Gu):(guE g).length=23:=rfl
set_option linter.defProp false in
@[reducible,instance]def iguE_len:=Go.Eng.Ln.mk a1J (by decide)
def prE(p:Pr):List Value:=[.int .u8 p.k,str p.name,.int .u8 p.ch.k,.int .u8 p.ch.o,.int .u8 p.ch.t,.int .i32 p.ch.n,str p.ch.s,.slice p.ch.a p.ch.l.length p.ch.c,
 .slice p.tg.a p.tg.l.length p.tg.c,.slice p.ex.a p.ex.l.length p.ex.c,
 str p.rep.name,.int .u8 p.rep.base.k,.int .u8 p.rep.base.o,.int .u8 p.rep.base.t,.int .i32 p.rep.base.n,str p.rep.base.s,.slice p.rep.base.a p.rep.base.l.length p.rep.base.c,
 .int .u8 p.rep.count.k,.int .u8 p.rep.count.o,.int .u8 p.rep.count.t,.int .i32 p.rep.count.n,str p.rep.count.s,.slice p.rep.count.a p.rep.count.l.length p.rep.count.c,
 .slice p.ga p.gl.length p.gc,.slice p.la p.ll.length p.lc,.slice p.pn.a p.pn.l.length p.pn.c,
 .int .u8 p.sp.k,.int .u8 p.sp.ty.kind,.int .i64 p.sp.ty.dim,.int .u8 p.sp.ty.item,str p.sp.ty.proto,.slice p.sp.names.a p.sp.names.l.length p.sp.names.c,
 .int .u8 p.sp.e.k,.int .u8 p.sp.e.o,.int .u8 p.sp.e.t,.int .i32 p.sp.e.n,str p.sp.e.s,.slice p.sp.e.a p.sp.e.l.length p.sp.e.c,.bool p.sp.cs,.slice p.sp.vs.a p.sp.vs.l.length p.sp.vs.c,.slice p.sp.fs.a p.sp.fs.l.length p.sp.fs.c,.slice p.sp.ba p.sp.bl.length p.sp.bc]
theorem a2r(p:Pr):(prE p).length=42:=rfl
set_option linter.defProp false in
@[reducible,instance]def iprE_len:=Go.Eng.Ln.mk a2r (by decide)
def foV(f:Fo):Value:=.agg (foE f).toArray
def rpV(r:Rp):Value:=.agg (rpE r).toArray
def spV(s:Sp):Value:=.agg (spE s).toArray
def guV(g:Gu):Value:=.agg (guE g).toArray
def prV(p:Pr):Value:=.agg (prE p).toArray
mutual
def P9:Pr->Nat
 | .mk _ _ _ _ _ _ _ _ gl _ _ ll _ sp=>1+(N6 ll+(b3B sp+a1l gl))
def N6:List Pr->Nat
 | []=>0
 |x::r=>P9 x+N6 r
def b3n:Gu->Nat
 | .mk _ _ _ _ _ _ _ _ _ bl=>N6 bl
def a1l:List Gu->Nat
 | []=>0
 |x::r=>b3n x+a1l r
def b3B:Sp->Nat
 | .mk _ _ _ _ _ _ _ _ _ bl=>N6 bl
end
theorem a6Y(p:Pr):P9 p=1+(N6 p.ll+(b3B p.sp+a1l p.gl)):=by cases p;rfl
theorem a6J(s:Sp):b3B s=N6 s.bl:=by cases s;rfl
theorem a8W(g:Gu):b3n g=N6 g.bl:=by cases g;rfl
theorem a6g:∀{l:List Pr}{x:Pr},x∈l->P9 x<=N6 l
 |y::r,x,h=>by
  unfold N6;rcases List.mem_cons.1 h with rfl|h
  ·omega
  ·have:=a6g h
   omega
theorem b1o:∀{l:List Gu}{x:Gu},x∈l->b3n x<=a1l l
 |y::r,x,h=>by
  unfold a1l;rcases List.mem_cons.1 h with rfl|h
  ·omega
  ·have:=b1o h
   omega
theorem a2Y(p:Pr):1<=P9 p:=by rw[a6Y];omega
inductive In:Pr->Pr->Prop
 |l {x p:Pr} (h:x∈p.ll):In x p
 |s {x p:Pr} (h:x∈p.sp.bl):In x p
 |g {x p:Pr} {g:Gu} (hg:g∈p.gl) (h:x∈g.bl):In x p
theorem In.lt{x p:Pr}(h:In x p):P9 x<P9 p:=by
 rw[a6Y p];cases h with
 |l h=>have:=a6g h;omega
 |s h=>have:=a6g h;rw[<-a6J]at this;omega
 |g hg h=>have h1:=a6g h;have h2:=b1o hg;rw[<-a8W]at h1;omega
theorem Pr.ind{q:Pr->Prop}(h:∀p,(∀x,In x p->q x)->q p)(p:Pr):q p:=by
 have key:∀n p,P9 p<=n->q p:=by
  intro n;induction n with
  |zero=>intro p hp;have:=a2Y p;omega
  |succ n ih=>intro p hp;exact h p λx hx=>ih x (by have:=hx.lt;omega)
 exact key (P9 p) p (Nat.le_refl _)
structure EOk(m:View)(h:List Res)(e:Ex):Prop where
 t:TOk m h e
 w:Wf e
theorem EOk.mono{m:View}{h h':List Res}{e:Ex}(q:EOk m h e)(s:h.Sublist h'):EOk m h' e:=⟨q.t.mono s,q.w⟩
structure LOk(m:View)(h:List Res)(s:Sli Ex):Prop where
 rd:Rd m h s.a s.l.length s.c 6 (fl exE s.l)
 ok:∀x∈s.l,EOk m h x
theorem LOk.mono{m:View}{h h':List Res}{s:Sli Ex}(q:LOk m h s)(r:h.Sublist h'):LOk m h' s:=⟨q.rd.mono Vl r,λx hx=>(q.ok x hx).mono r⟩
abbrev Big:Nat:=140737488355328
structure TyW(t:Ty):Prop where
 k:0<=t.kind/\t.kind<=255
 i:0<=t.item/\t.item<=255
 d:-9223372036854775808<=t.dim/\t.dim<=9223372036854775807
 p:t.proto.length<=Big
structure FoW(f:Fo):Prop where
 t:TyW f.ty
 n:f.name.length<=Big
structure SOk(m:View)(h:List Res)(s:Sp):Prop where
 k:0<=s.k/\s.k<=255
 ty:TyW s.ty
 nr:Rd m h s.names.a s.names.l.length s.names.c 1 (fl encB s.names.l)
 nw:∀x∈s.names.l,x.length<=Big
 e:EOk m h s.e
 v:PrOk m h s.vs.a s.vs.l.length s.vs.c s.vs.l
 vw:∀x∈s.vs.l,x.items.length=x.n
 fr:Rd m h s.fs.a s.fs.l.length s.fs.c 6 (fl foE s.fs.l)
 fw:∀x∈s.fs.l,FoW x
 b:Rd m h s.ba s.bl.length s.bc 42 (fl prE s.bl)
structure GOk(m:View)(h:List Res)(g:Gu):Prop where
 k:0<=g.k/\g.k<=255
 n:g.name.length<=Big
 cond:EOk m h g.cond
 ch:EOk m h g.ch
 tg:LOk m h g.tg
 vl:LOk m h g.vl
 time:EOk m h g.time
 b:Rd m h g.ba g.bl.length g.bc 42 (fl prE g.bl)
structure P1(m:View)(h:List Res)(p:Pr):Prop where
 k:0<=p.k/\p.k<=255
 n:p.name.length<=Big
 ch:EOk m h p.ch
 tg:LOk m h p.tg
 ex:LOk m h p.ex
 rn:p.rep.name.length<=Big
 rb:EOk m h p.rep.base
 rc:EOk m h p.rep.count
 g:Rd m h p.ga p.gl.length p.gc 23 (fl guE p.gl)
 gs:∀x∈p.gl,GOk m h x
 l:Rd m h p.la p.ll.length p.lc 42 (fl prE p.ll)
 pn:Rd m h p.pn.a p.pn.l.length p.pn.c 1 (fl a3G p.pn.l)
 pw:∀x∈p.pn.l,-9223372036854775808<=x/\x<=9223372036854775807
 sp:SOk m h p.sp
inductive POk(m:View)(h:List Res):Pr->Prop
 |mk {p:Pr} (o:P1 m h p) (s:∀x,In x p->POk m h x):POk m h p
theorem POk.own{m:View}{h:List Res}{p:Pr}(q:POk m h p):P1 m h p:=by cases q;assumption
theorem POk.sub{m:View}{h:List Res}{p x:Pr}(q:POk m h p)(hx:In x p):POk m h x:=by cases q with|mk o s=>exact s x hx
theorem SOk.mono{m:View}{h h':List Res}{s:Sp}(q:SOk m h s)(r:h.Sublist h'):SOk m h' s:=
 ⟨q.k,q.ty,q.nr.mono Vl r,q.nw,q.e.mono r,q.v.mono Vl r,q.vw,q.fr.mono Vl r,q.fw,q.b.mono Vl r⟩
theorem GOk.mono{m:View}{h h':List Res}{g:Gu}(q:GOk m h g)(r:h.Sublist h'):GOk m h' g:=
 ⟨q.k,q.n,q.cond.mono r,q.ch.mono r,q.tg.mono r,q.vl.mono r,q.time.mono r,q.b.mono Vl r⟩
theorem P1.mono{m:View}{h h':List Res}{p:Pr}(q:P1 m h p)(r:h.Sublist h'):P1 m h' p:=
 ⟨q.k,q.n,q.ch.mono r,q.tg.mono r,q.ex.mono r,q.rn,q.rb.mono r,q.rc.mono r,q.g.mono Vl r,λx hx=>(q.gs x hx).mono r,q.l.mono Vl r,q.pn.mono Vl r,q.pw,q.sp.mono r⟩
theorem POk.mono{m:View}{h h':List Res}{p:Pr}(q:POk m h p)(r:h.Sublist h'):POk m h' p:=by
 induction q with
 |mk o _ ih=>exact .mk (o.mono r) ih
end Go.Pc
end
namespace Go.Pc
section
open Go.Eng Go.Xp Go
open Go.Ty (Ty Vr)
def H4(e:Ex):Bool:=E5 e A2
def F5(e:Ex):Bool:=((e.k==4)||(e.k==5))&&F8 e
def a3j(a b:Int)(n:Int):Bool:=decide (n>=a)&&decide (n<=b)
def E7{α:Type}(l:List α)(a b:Int)(q:α->Bool):Bool:=a3j a b l.length&&!(l.any λx=>!q x)
structure Us where
 rep:Bool
 name:Bool
 chan:Bool
 spec:Bool
 procs:Bool
 t0:Int
 t1:Int
 e0:Int
 e1:Int
 p0:Int
 p1:Int
 g0:Int
 g1:Int
 lo:Int
 hi:Int
def usE(u:Us):List Value:=[.bool u.rep,.bool u.name,.bool u.chan,.bool u.spec,.bool u.procs,.int .i64 u.t0,.int .i64 u.t1,.int .i64 u.e0,.int .i64 u.e1,.int .i64 u.p0,.int .i64 u.p1,.int .i64 u.g0,.int .i64 u.g1,.int .u8 u.lo,.int .u8 u.hi]
def us0:Us:=⟨false,false,false,false,false,0,0,0,0,0,0,0,0,0,0⟩
def B5(k:Int):Us×Bool:=
 if k=1 then(us0,true)else if k=2 then(us0,true)
 else if k=3 then({ us0 with t0:=1,t1:=8,e0:=1,e1:=8 },true)
 else if k=4 then({ us0 with chan:=true,t0:=1,t1:=8 },true)
 else if k=5 then({ us0 with chan:=true,e0:=1,e1:=9 },true)
 else if k=6 then({ us0 with chan:=true,e0:=1,e1:=1 },true)
 else if k=7 then({ us0 with chan:=true,g0:=1,g1:=16,lo:=7,hi:=7 },true)
 else if k=8 then({ us0 with rep:=true,p0:=0,p1:=2048 },true)else if k=9 then({ us0 with rep:=true,p0:=0,p1:=2048 },true)
 else if k=10 then({ us0 with p0:=2,p1:=2 },true)
 else if k=11 then({ us0 with procs:=true,p0:=1,p1:=8 },true)
 else if k=12 then({ us0 with rep:=true,g0:=0,g1:=16,lo:=2,hi:=4 },true)else if k=13 then({ us0 with rep:=true,g0:=0,g1:=16,lo:=2,hi:=4 },true)
 else if k=14 then({ us0 with rep:=true,g0:=0,g1:=16,lo:=1,hi:=1 },true)
 else if k=15 then({ us0 with e0:=1,e1:=1,g0:=0,g1:=16,lo:=5,hi:=6 },true)
 else if k=16 then({ us0 with e0:=1,e1:=1,p0:=1,p1:=1 },true)
 else if k=17 then({ us0 with name:=true,e0:=0,e1:=8 },true)
 else if k=18 then({ us0 with spec:=true,p0:=1,p1:=1 },true)
 else(us0,false)
def X3(t:Ty):Bool:=Go.Ty.may t&&(t.dim==0)&&decide (t.kind<=3)
def O6(r:Rp):Bool:=if r.name==[]then H4 r.base&&H4 r.count else Go.Lx.name r.name&&F8 r.base&&F8 r.count
def foP(f:Fo):Bool:=Go.Lx.name f.name&&Go.Ty.may f.ty&&(!f.val||X3 f.ty)
def N7(u a z:Bool):Bool:=if u then a else z
def a4h(g:Gu):Bool:=if(g.k==3)||(g.k==4)then F8 g.cond||H4 g.cond else F8 g.cond
def guP(g:Gu):Bool:=
 (g.k !=0)&&decide (g.k<=7)&&((g.bl.length:Int)==1) &&
 N7 ((g.k==1)||(g.k==2)||(g.k==3)||(g.k==4)) (a4h g) (H4 g.cond) &&
 N7 (g.k==7) (Go.Lx.name g.name) (g.name==[]) &&
 N7 ((g.k==3)||(g.k==4)) (F5 g.ch) (H4 g.ch) &&
 N7 (g.k==4) (F8 g.time) (H4 g.time) &&
 E7 g.tg.l (if g.k=3 then 1 else 0) (if g.k=3 then 8 else if g.k=7 then 8 else 0) F5&&E7 g.vl.l (if g.k=5 then 1 else 0) (if g.k=5 then 8 else 0) F8
def a0s(f g:Fo):Bool:=(f.val==g.val)&&(Go.Ty.eqT f.ty g.ty&&((f.name==g.name)&&true))
def P2(x y:Vr):Bool:=(x.tag==y.tag)&&(x.items==y.items)
def J9(a b:Sp):Bool:=((((((((a.k==b.k)&&Go.Ty.eqT a.ty b.ty)&&(a.names.l==b.names.l))&&E5 a.e b.e)&&(a.cs==b.cs))&&eqL P2 a.vs.l b.vs.l)&&eqL a0s a.fs.l b.fs.l)&&((a.bl.length:Int)==b.bl.length))
def a0r(s:Sp):Sp:=
 if s.k=1 then .mk s.k s.ty s.names A2 false B0 B0 none 0 []
 else if s.k=2 then .mk s.k s.ty s.names s.e false B0 B0 none 0 []
 else if s.k=3 then .mk s.k s.ty s.names s.e false B0 B0 none 0 []
 else if s.k=4 then .mk s.k Go.Ty.zeroT s.names A2 s.cs s.vs B0 none 0 []
 else .mk s.k Go.Ty.zeroT s.names A2 false B0 s.fs s.ba s.bc s.bl
def a1j(s:Sp):Bool:=
 if s.k=1 then Go.Ty.may s.ty
 else if s.k=2 then X3 s.ty&&F8 s.e
 else if s.k=3 then X3 s.ty&&F5 s.e
 else if s.k=4 then Go.Ty.mayPr s.cs s.vs.l
 else((s.bl.length:Int)==1)&&E7 s.fs.l 0 8 foP
def spP(s:Sp):Bool:=
 if 1<=s.k/\s.k<=5 then a1j s&&E7 s.names.l 1 (if s.k=1 then 8 else 1) Go.Lx.name&&J9 s (a0r s)else false
def C3:Sp:=.mk 0 Go.Ty.zeroT B0 A2 false B0 B0 none 0 []
def inG(u:Us)(g:Gu):Bool:=decide (g.k>=u.lo)&&decide (g.k<=u.hi)&&guP g
def c0X(u:Us):Bool:=(u.p0==0)&&(u.p1==2048)
def b3H(u:Us):Us:=if c0X u then { u with p0:=1,p1:=1 }else { u with g0:=1,g1:=1 }
def M1(p:Pr)(u:Us):Bool:=
 a3j u.p0 u.p1 p.ll.length&&E7 p.gl u.g0 u.g1 (inG u) &&
 N7 u.name (Go.Lx.name p.name) (p.name==[]) &&
 N7 u.chan (F5 p.ch) (H4 p.ch) &&
 E7 p.tg.l u.t0 u.t1 F5&&E7 p.ex.l u.e0 u.e1 F8 &&
 E7 p.pn.l (if u.procs then(p.ll.length:Int)else 0) (if u.procs then(p.ll.length:Int)else 0) (λn=>decide (n>=0)&&decide (n<8)) &&
 ((u.spec&&spP p.sp)||(!u.spec&&(J9 p.sp C3)))
def L2(p:Pr):Bool:=
 if !(B5 p.k).2||!O6 p.rep then false
 else if p.rep.name !=[]then(if !(B5 p.k).1.rep then false else M1 p (b3H (B5 p.k).1))else M1 p (B5 p.k).1
end
section
open Go.Eng Go.Xp Go
open Go.Ty (Ty Vr)
theorem a05{α:Type}{l:List α}{a b:Int}{q:α->Bool}(h:E7 l a b q=true):(∀x∈l,q x=true)/\a<=l.length/\(l.length:Int)<=b:=by unfold E7 a3j at h;simp only[Bool.and_eq_true,decide_eq_true_eq,Bool.not_eq_true',List.any_eq_false]at h;exact⟨λx hx=>by have:=h.2 x hx;simpa using this,h.1.1,h.1.2⟩
theorem c8F{e:Ex}(h:F5 e=true):e.k=4\/e.k=5:=by unfold F5 at h;simp only[Bool.and_eq_true,Bool.or_eq_true,beq_iff_eq]at h;exact h.1
structure Pl(p:Pr):Prop where
 kd:(B5 p.k).2=true
 rep:O6 p.rep=true
 ch:(B5 p.k).1.chan=true->F5 p.ch=true
 nc:(B5 p.k).1.chan=false->H4 p.ch=true
 tg:∀x∈p.tg.l,F5 x=true
 ex:∀x∈p.ex.l,F8 x=true
 tn:(B5 p.k).1.t0<=p.tg.l.length/\(p.tg.l.length:Int)<=(B5 p.k).1.t1
 en:(B5 p.k).1.e0<=p.ex.l.length/\(p.ex.l.length:Int)<=(B5 p.k).1.e1
 gs:∀g∈p.gl,guP g=true/\(B5 p.k).1.lo<=g.k/\g.k<=(B5 p.k).1.hi
 gn:p.rep.name=[]->(B5 p.k).1.g0<=p.gl.length/\(p.gl.length:Int)<=(B5 p.k).1.g1
 pn:p.rep.name=[]->(B5 p.k).1.p0<=p.ll.length/\(p.ll.length:Int)<=(B5 p.k).1.p1
 rp:p.rep.name≠[]->(B5 p.k).1.rep=true
 sp:(B5 p.k).1.spec=true->spP p.sp=true
 ns:(B5 p.k).1.spec=false->J9 p.sp C3=true
theorem plU{p:Pr}{u:Us}(h:M1 p u=true):((a3j u.p0 u.p1 p.ll.length=true/\E7 p.gl u.g0 u.g1 (inG u)=true)/\N7 u.chan (F5 p.ch) (H4 p.ch)=true)/\(E7 p.tg.l u.t0 u.t1 F5=true/\E7 p.ex.l u.e0 u.e1 F8=true)/\((u.spec&&spP p.sp)||(!u.spec&&(J9 p.sp C3)))=true:=by unfold M1 at h;simp only[Bool.and_eq_true]at h;obtain⟨⟨⟨⟨⟨⟨⟨h1,h2⟩,h3⟩,h4⟩,h5⟩,h6⟩,h7⟩,h8⟩:=h;exact⟨⟨⟨h1,h2⟩,h4⟩,⟨h5,h6⟩,h8⟩
theorem c0t{u:Us}{g:Gu}(h:inG u g=true):guP g=true/\u.lo<=g.k/\g.k<=u.hi:=by unfold inG at h;simp only[Bool.and_eq_true,decide_eq_true_eq]at h;exact⟨h.2,h.1.1,h.1.2⟩
theorem b2t{a b n:Int}(h:a3j a b n=true):a<=n/\n<=b:=by unfold a3j at h;simp only[Bool.and_eq_true,decide_eq_true_eq]at h;exact h
theorem a0G{p:Pr}(h:L2 p=true):Pl p:=by
 unfold L2 at h;split at h
 ·cases h
 ·rename_i h0
  have h1:(B5 p.k).2=true/\O6 p.rep=true:=by cases h2:(B5 p.k).2<;>cases h3:O6 p.rep<;>simp_all
  have key:∀u:Us,M1 p u=true->u.chan=(B5 p.k).1.chan->u.spec=(B5 p.k).1.spec->u.t0=(B5 p.k).1.t0->u.t1=(B5 p.k).1.t1->u.e0=(B5 p.k).1.e0->u.e1=(B5 p.k).1.e1->u.lo=(B5 p.k).1.lo->u.hi=(B5 p.k).1.hi ->
   (p.rep.name=[]->u=(B5 p.k).1)->(p.rep.name≠[]->(B5 p.k).1.rep=true)->Pl p:=by
   intro u hu e1 e2 e3 e4 e5 e6 e7 e8 e9 e10;obtain⟨⟨⟨q1,q2⟩,q3⟩,⟨q4,q5⟩,q6⟩:=plU hu;obtain⟨g1,g2,g3⟩:=a05 q2;obtain⟨t1,t2,t3⟩:=a05 q4;obtain⟨x1,x2,x3⟩:=a05 q5;refine⟨h1.1,h1.2,λhc=>?_,λhc=>?_,t1,x1,⟨e3▸t2,e4▸t3⟩,⟨e5▸x2,e6▸x3⟩,λg hg=>?_,λhr=>?_,λhr=>?_,e10,λhc=>?_,λhc=>?_⟩
   ·rw[e1,hc]at q3;exact q3
   ·rw[e1,hc]at q3;exact q3
   ·have:=c0t (g1 g hg)
    rw[e7,e8]at this;exact this
   ·rw[e9 hr]at g2 g3;exact⟨g2,g3⟩
   ·rw[e9 hr]at q1;exact b2t q1
   ·rw[e2,hc]at q6;simpa using q6
   ·rw[e2,hc]at q6;simpa using q6
  split at h
  ·rename_i hr
   have hr':p.rep.name≠[]:=by simpa using hr
   split at h
   ·cases h
   ·rename_i h4
    have h5:(B5 p.k).1.rep=true:=by simpa using h4
    unfold b3H at h;split at h
    ·exact key _ h rfl rfl rfl rfl rfl rfl rfl rfl (λq=>absurd q hr') (λ_=>h5)
    ·exact key _ h rfl rfl rfl rfl rfl rfl rfl rfl (λq=>absurd q hr') (λ_=>h5)
  ·rename_i hr
   have hr':p.rep.name=[]:=by simpa using hr
   exact key _ h rfl rfl rfl rfl rfl rfl rfl rfl (λ_=>rfl) (λq=>absurd hr' q)
structure GuV(g:Gu):Prop where
 body:g.bl.length=1
 cond:1<=g.k->g.k<=4->F8 g.cond=true\/H4 g.cond=true
 ch:g.k=3\/g.k=4->F5 g.ch=true
 time:g.k=4->F8 g.time=true
 tg:∀x∈g.tg.l,F5 x=true
 vl:∀x∈g.vl.l,F8 x=true
theorem a6T{g:Gu}(h:guP g=true):GuV g:=by
 unfold guP at h;simp only[Bool.and_eq_true]at h;obtain⟨⟨⟨⟨⟨⟨⟨⟨h1,h2⟩,h3⟩,h4⟩,h5⟩,h6⟩,h7⟩,h8⟩,h9⟩:=h;refine⟨by simp only[beq_iff_eq]at h3;omega,λa b=>?_,λa=>?_,λa=>?_,(a05 h8).1,(a05 h9).1⟩
 ·have hk:((g.k==1)||(g.k==2)||(g.k==3)||(g.k==4))=true:=by
   have:g.k=1\/g.k=2\/g.k=3\/g.k=4:=by omega
   rcases this with q|q|q|q<;>rw[q]<;>rfl
  rw[hk]at h4;replace h4:a4h g=true:=h4;unfold a4h at h4;split at h4
  ·simp only[Bool.or_eq_true]at h4;exact h4
  ·exact .inl h4
 ·have hk:((g.k==3)||(g.k==4))=true:=by rcases a with q|q<;>rw[q]<;>rfl
  rw[hk]at h6;exact h6
 ·have hk:(g.k==4)=true:=by rw[a];rfl
  rw[hk]at h7;exact h7
theorem b9g{e:Ex}(h:H4 e=true):e.k=0:=by unfold H4 at h;rw[a6V]at h;simp only[Bool.and_eq_true,Bool.not_eq_true']at h;have h1:=h.1;unfold a9y at h1;simp only[Bool.or_eq_false_iff,bne_eq_false_iff_eq]at h1;exact h1.1.1.1.1.1
structure SpV(s:Sp):Prop where
 kd:1<=s.k/\s.k<=5
 ev:s.k=2->F8 s.e=true
 es:s.k=3->F5 s.e=true
 body:s.k=5->s.bl.length=1
 fs:s.k=5->s.fs.l.length<=8
theorem a7g{s:Sp}(h:spP s=true):SpV s:=by
 unfold spP at h;split at h
 ·rename_i hk
  simp only[Bool.and_eq_true]at h;have hf:=h.1.1;unfold a1j at hf;refine⟨hk,λe=>?_,λe=>?_,λe=>?_,λe=>?_⟩
  ·rw[if_neg (by omega),if_pos e]at hf
   simp only[Bool.and_eq_true]at hf;exact hf.2
  ·rw[if_neg (by omega),if_neg (by omega),if_pos e]at hf
   simp only[Bool.and_eq_true]at hf;exact hf.2
  ·rw[if_neg (by omega),if_neg (by omega),if_neg (by omega),if_neg (by omega)]at hf
   simp only[Bool.and_eq_true,beq_iff_eq]at hf;omega
  ·rw[if_neg (by omega),if_neg (by omega),if_neg (by omega),if_neg (by omega)]at hf
   simp only[Bool.and_eq_true,beq_iff_eq]at hf;have:=(a05 hf.2).2.2;omega
 ·cases h
inductive Vld:Pr->Prop
 |mk {p:Pr} (h:L2 p=true) (s:∀x,In x p->Vld x):Vld p
theorem Vld.own{p:Pr}(q:Vld p):Pl p:=by cases q with|mk h _=>exact a0G h
theorem Vld.sub{p x:Pr}(q:Vld p)(hx:In x p):Vld x:=by cases q with|mk _ s=>exact s x hx
end
section
open Go.Eng Go.Xp Go
open Go.Ty (Ty Vr)
def U3(p:Pr)(d:Int)(pl:Bool)(left:Int):Bool:=((decide (left-1<0)||decide (d>32))||!L2 p)||((p.k==11)&&!pl)
mutual
def G9:Pr->Int->Bool->Int->Bool×Int
 | .mk k name ch tg ex rep ga gc gl la lc ll pn sp,d,pl,left=>
  if U3 (.mk k name ch tg ex rep ga gc gl la lc ll pn sp) d pl left then(false,left-1)
  else if k=18 then
   (if(W9 sp d (left-1)).1 then
    (if(S8 ll d pl (W9 sp d (left-1)).2).1 then a2d gl (d+2) (S8 ll d pl (W9 sp d (left-1)).2).2 else S8 ll d pl (W9 sp d (left-1)).2)
   else W9 sp d (left-1))
  else if(S8 ll (if k=11 then d+2 else d+1) false (left-1)).1 then a2d gl (d+2) (S8 ll (if k=11 then d+2 else d+1) false (left-1)).2
  else S8 ll (if k=11 then d+2 else d+1) false (left-1)
def S8:List Pr->Int->Bool->Int->Bool×Int
 | [],_,_,q=>(true,q)
 |x::r,d,pl,q=>if(G9 x d pl q).1 then S8 r d pl (G9 x d pl q).2 else G9 x d pl q
def a4S:List Pr->Int->Int->Bool×Int
 | [],_,q=>(true,q)
 |x::_,d,q=>G9 x d false q
def a2k:Gu->Int->Int->Bool×Int
 | .mk _ _ _ _ _ _ _ _ _ bl,d,q=>a4S bl d q
def a2d:List Gu->Int->Int->Bool×Int
 | [],_,q=>(true,q)
 |g::r,d,q=>if(a2k g d q).1 then a2d r d (a2k g d q).2 else a2k g d q
def W9:Sp->Int->Int->Bool×Int
 | .mk _ _ _ _ cs _ _ _ _ bl,d,q=>if cs&&decide (d+2>32)then(false,q)else a4S bl (d+1) q
end
theorem a4t(p:Pr)(d:Int)(pl:Bool)(left:Int):G9 p d pl left =
 if U3 p d pl left then(false,left-1)
 else if p.k=18 then
  (if(W9 p.sp d (left-1)).1 then
   (if(S8 p.ll d pl (W9 p.sp d (left-1)).2).1 then a2d p.gl (d+2) (S8 p.ll d pl (W9 p.sp d (left-1)).2).2 else S8 p.ll d pl (W9 p.sp d (left-1)).2)
  else W9 p.sp d (left-1))
 else if(S8 p.ll (if p.k=11 then d+2 else d+1) false (left-1)).1 then a2d p.gl (d+2) (S8 p.ll (if p.k=11 then d+2 else d+1) false (left-1)).2
 else S8 p.ll (if p.k=11 then d+2 else d+1) false (left-1):=by cases p;rfl
theorem a5B(g:Gu)(d q:Int):a2k g d q=a4S g.bl d q:=by cases g;rfl
theorem a5U(s:Sp)(d q:Int):W9 s d q=if s.cs&&decide (d+2>32)then(false,q)else a4S s.bl (d+1) q:=by cases s;rfl
def mayP(p:Pr):Bool:=(G9 p 0 true 2048).1
theorem c3Q{s:Sp}(h:spP s=true):s.bl.length<=1:=by
 have hV:=a7g h;by_cases h5:s.k=5
 ·have:=hV.body h5;omega
 ·unfold spP at h
  rw[if_pos hV.kd]at h;simp only[Bool.and_eq_true]at h;have h2:=h.2;unfold J9 at h2;simp only[Bool.and_eq_true,beq_iff_eq]at h2;have h3:=h2.2;have hw:(a0r s).bl.length=0:=by
   unfold a0r;split
   ·rfl
   split
   ·rfl
   split
   ·rfl
   split
   ·rfl
   ·have:=hV.kd
    omega
  omega
theorem c6S{s:Sp}(h:J9 s C3=true):s.bl=[]:=by unfold J9 at h;simp only[Bool.and_eq_true,beq_iff_eq]at h;have h3:(s.bl.length:Int)=0:=h.2;exact List.eq_nil_of_length_eq_zero (by omega)
theorem b4S{k:Int}(h:k≠18):(B5 k).1.spec=false:=by
 unfold B5;by_cases h1:k=1
 ·rw[if_pos h1];rfl
 rw[if_neg h1];by_cases h2:k=2
 ·rw[if_pos h2];rfl
 rw[if_neg h2];by_cases h3:k=3
 ·rw[if_pos h3];rfl
 rw[if_neg h3];by_cases h4:k=4
 ·rw[if_pos h4];rfl
 rw[if_neg h4];by_cases h5:k=5
 ·rw[if_pos h5];rfl
 rw[if_neg h5];by_cases h6:k=6
 ·rw[if_pos h6];rfl
 rw[if_neg h6];by_cases h7:k=7
 ·rw[if_pos h7];rfl
 rw[if_neg h7];by_cases h8:k=8
 ·rw[if_pos h8];rfl
 rw[if_neg h8];by_cases h9:k=9
 ·rw[if_pos h9];rfl
 rw[if_neg h9];by_cases h10:k=10
 ·rw[if_pos h10];rfl
 rw[if_neg h10];by_cases h11:k=11
 ·rw[if_pos h11];rfl
 rw[if_neg h11];by_cases h12:k=12
 ·rw[if_pos h12];rfl
 rw[if_neg h12];by_cases h13:k=13
 ·rw[if_pos h13];rfl
 rw[if_neg h13];by_cases h14:k=14
 ·rw[if_pos h14];rfl
 rw[if_neg h14];by_cases h15:k=15
 ·rw[if_pos h15];rfl
 rw[if_neg h15];by_cases h16:k=16
 ·rw[if_pos h16];rfl
 rw[if_neg h16];by_cases h17:k=17
 ·rw[if_pos h17];rfl
 rw[if_neg h17];rw[if_neg h];rfl
theorem b5B{p:Pr}{d left:Int}{pl:Bool}(h:U3 p d pl left=false):(0<=left-1/\d<=32)/\L2 p=true:=by unfold U3 at h;simp only[Bool.or_eq_false_iff,decide_eq_false_iff_not,Bool.not_eq_false']at h;exact⟨⟨by omega,by omega⟩,h.1.2⟩
def Cnt(n:Nat)(q:Int)(r:Bool×Int):Prop:=r.1=true->(n:Int)=q-r.2/\0<=r.2
theorem a6N{l:List Pr}{d q:Int}(hq:0<=q)(hl:l.length<=1)(ih:∀x∈l,∀d pl q,0<=q->(G9 x d pl q).1=true->Vld x/\Cnt (P9 x) q (G9 x d pl q))(h:(a4S l d q).1=true):(∀x∈l,Vld x)/\(N6 l:Int)=q-(a4S l d q).2/\0<=(a4S l d q).2:=by
 match l,hl with
 | [],_=>exact⟨λx hx=>(by cases hx),by show((0:Nat):Int)=q-q;omega,hq⟩
 | [x],_=>have h':(G9 x d false q).1=true:=h;obtain⟨h1,h2⟩:=ih x (List.Mem.head _) d false q hq h';obtain⟨h3,h4⟩:=h2 h';refine⟨λy hy=>by cases List.mem_singleton.1 hy;exact h1,?_,h4⟩;show((P9 x+0:Nat):Int)=_;rw[Nat.add_zero];exact h3
theorem a5z{d:Int}{pl:Bool}:∀{l:List Pr}{q:Int},0<=q->(∀x∈l,∀d pl q,0<=q->(G9 x d pl q).1=true->Vld x/\Cnt (P9 x) q (G9 x d pl q))->(S8 l d pl q).1=true->(∀x∈l,Vld x)/\(N6 l:Int)=q-(S8 l d pl q).2/\0<=(S8 l d pl q).2
 | [],q,hq,_,_=>⟨λx hx=>(by cases hx),by show((0:Nat):Int)=q-q;omega,hq⟩
 |x::r,q,hq,ih,h=>by
  have e:S8 (x::r) d pl q=if(G9 x d pl q).1 then S8 r d pl (G9 x d pl q).2 else G9 x d pl q:=rfl
  rw[e]at h⊢;cases hc:(G9 x d pl q).1 with
  |false=>rw[hc,if_neg (by decide)]at h;rw[hc]at h;cases h
  |true=>
   rw[hc,if_pos rfl]at h;rw[if_pos rfl];obtain⟨h1,h2⟩:=ih x (List.Mem.head _) d pl q hq hc;obtain⟨h3,h4⟩:=h2 hc;obtain⟨h5,h6,h7⟩:=a5z h4 (λy hy=>ih y (List.Mem.tail _ hy)) h;refine⟨λy hy=>?_,?_,h7⟩
   ·rcases List.mem_cons.1 hy with rfl|hy
    ·exact h1
    ·exact h5 y hy
   ·show((P9 x+N6 r:Nat):Int)=_
    omega
theorem b0P{d:Int}:∀{l:List Gu}{q:Int},0<=q->(∀g∈l,g.bl.length<=1)->(∀g∈l,∀x∈g.bl,∀d pl q,0<=q->(G9 x d pl q).1=true->Vld x/\Cnt (P9 x) q (G9 x d pl q))->(a2d l d q).1=true->(∀g∈l,∀x∈g.bl,Vld x)/\(a1l l:Int)=q-(a2d l d q).2/\0<=(a2d l d q).2
 | [],q,hq,_,_,_=>⟨λx hx=>(by cases hx),by show((0:Nat):Int)=q-q;omega,hq⟩
 |g::r,q,hq,hb,ih,h=>by
  have e:a2d (g::r) d q=if(a2k g d q).1 then a2d r d (a2k g d q).2 else a2k g d q:=rfl
  rw[e,a5B]at h⊢;cases hc:(a4S g.bl d q).1 with
  |false=>rw[hc,if_neg (by decide)]at h;rw[hc]at h;cases h
  |true=>
   rw[hc,if_pos rfl]at h;rw[if_pos rfl];obtain⟨h1,h3,h4⟩:=a6N hq (hb g (List.Mem.head _)) (ih g (List.Mem.head _)) hc;obtain⟨h5,h6,h7⟩:=b0P h4 (λg' hg=>hb g' (List.Mem.tail _ hg)) (λg' hg=>ih g' (List.Mem.tail _ hg)) h;refine⟨λy hy=>?_,?_,h7⟩
   ·rcases List.mem_cons.1 hy with rfl|hy
    ·exact h1
    ·exact h5 y hy
   ·show((b3n g+a1l r:Nat):Int)=_
    rw[a8W];omega
theorem a2M(p:Pr):∀(d:Int)(pl:Bool)(q:Int),0<=q->(G9 p d pl q).1=true->Vld p/\Cnt (P9 p) q (G9 p d pl q):=by
 refine Pr.ind (q:=λp=>∀(d:Int)(pl:Bool)(q:Int),0<=q->(G9 p d pl q).1=true->Vld p/\Cnt (P9 p) q (G9 p d pl q)) (λp ih d pl q hq h=>?_) p;have e:=a4t p d pl q;cases hh:U3 p d pl q with
 |true=>rw[hh,if_pos rfl]at e;rw[e]at h;cases h
 |false=>
  rw[hh,if_neg (by decide)]at e;obtain⟨⟨h0,_⟩,hpl⟩:=b5B hh;have hV:=a0G hpl;have hgb:∀g∈p.gl,g.bl.length<=1:=λg hg=>by have:=(a6T (hV.gs g hg).1).body;omega
  have ihL:∀x∈p.ll,∀d pl q,0<=q->(G9 x d pl q).1=true->Vld x/\Cnt (P9 x) q (G9 x d pl q):=λx hx=>ih x (In.l hx)
  have ihG:∀g∈p.gl,∀x∈g.bl,∀d pl q,0<=q->(G9 x d pl q).1=true->Vld x/\Cnt (P9 x) q (G9 x d pl q):=λg hg x hx=>ih x (In.g hg hx)
  have ihS:∀x∈p.sp.bl,∀d pl q,0<=q->(G9 x d pl q).1=true->Vld x/\Cnt (P9 x) q (G9 x d pl q):=λx hx=>ih x (In.s hx)
  have mk:(∀x∈p.ll,Vld x)->(∀g∈p.gl,∀x∈g.bl,Vld x)->(∀x∈p.sp.bl,Vld x)->Vld p:=λa b c=>.mk hpl λx hx=>by
   cases hx with
   |l h=>exact a x h
   |s h=>exact c x h
   |g hg h=>exact b _ hg x h
  have hcp:=a6Y p;by_cases h18:p.k=18
  ·rw[if_pos h18]at e
   have hsl:p.sp.bl.length<=1:=c3Q (hV.sp (by rw[h18];rfl));cases hS:(W9 p.sp d (q-1)).1 with
   |false=>rw[hS,if_neg (by decide)]at e;rw[e,hS]at h;cases h
   |true=>
    rw[hS,if_pos rfl]at e;have hSS:(∀x∈p.sp.bl,Vld x)/\(N6 p.sp.bl:Int)=(q-1)-(W9 p.sp d (q-1)).2/\0<=(W9 p.sp d (q-1)).2:=by
     rw[a5U]at hS⊢;split at hS
     ·cases hS
     ·rename_i hc
      rw[if_neg hc];exact a6N h0 hsl ihS hS
    obtain⟨s1,s2,s3⟩:=hSS;cases hL:(S8 p.ll d pl (W9 p.sp d (q-1)).2).1 with
    |false=>rw[hL,if_neg (by decide)]at e;rw[e,hL]at h;cases h
    |true=>rw[hL,if_pos rfl]at e;obtain⟨l1,l2,l3⟩:=a5z s3 ihL hL;rw[e]at h;obtain⟨g1,g2,g3⟩:=b0P l3 hgb ihG h;refine⟨mk l1 g1 s1,λ_=>?_⟩;rw[e];rw[a6J]at hcp;exact⟨by omega,g3⟩
  ·rw[if_neg h18]at e
   have hsn:p.sp.bl=[]:=by have hsp:(B5 p.k).1.spec=false:=b4S h18;exact c6S (hV.ns hsp)
   cases hL:(S8 p.ll (if p.k=11 then d+2 else d+1) false (q-1)).1 with
   |false=>rw[hL,if_neg (by decide)]at e;rw[e,hL]at h;cases h
   |true=>rw[hL,if_pos rfl]at e;obtain⟨l1,l2,l3⟩:=a5z h0 ihL hL;rw[e]at h;obtain⟨g1,g2,g3⟩:=b0P l3 hgb ihG h;refine⟨mk l1 g1 (by rw[hsn];intro x hx;cases hx),λ_=>?_⟩;rw[e];rw[a6J,hsn]at hcp;replace hcp:P9 p=1+(N6 p.ll+(0+a1l p.gl)):=hcp;exact⟨by omega,g3⟩
theorem b4C{p:Pr}(h:mayP p=true):Vld p/\P9 p<=2048:=by obtain⟨h1,h2⟩:=a2M p 0 true 2048 (by decide) h;obtain⟨h3,h4⟩:=h2 h;exact⟨h1,by omega⟩
end
end Go.Pc
namespace Go.Ty
section
open Go.Lx
def a1m:B:=[67,72,65,78]
def cOF:B:=[79,70]
def a3e:B:=[84,73,77,69,82]
def lb:B:=[91]
def rb:B:=[93]
def B9(s:B):Tok:=⟨5,0,s,0⟩
def L7(s:B):Tok:=⟨2,0,s,0⟩
def dimT(t:Ty):List Tok:=if decide (t.dim>0)then[B9 lb,⟨3,0,[],t.dim⟩,B9 rb]else[]
def chanT(t:Ty):List Tok:=if t.kind==4 then[L7 a1m,L7 cOF]else[]
def a5g(t:Ty):Int:=if t.kind==4 then t.item else t.kind
def lastT(t:Ty):Tok:=if(wordS (a5g t)).2.2 then L7 (wordS (a5g t)).1 else if !(t.proto==[])then⟨1,0,t.proto,0⟩else L7 a3e
def toks(t:Ty):List Tok:=dimT t++chanT t++[lastT t]
def tokens(t:Ty):List Tok×Int:=if may t then(toks t,0)else([],2)
theorem a5M{t:Ty}(h:may t=false):tokens t=([],2):=by unfold tokens;rw[h];rfl
theorem N9{t:Ty}(h:may t=true):tokens t=(toks t,0):=by unfold tokens;rw[h];rfl
theorem dimT_le(t:Ty):(dimT t).length<=3:=by unfold dimT;split<;>simp
theorem chanT_le(t:Ty):(chanT t).length<=2:=by unfold chanT;split<;>simp
theorem may_dim{t:Ty}(h:may t=true):0<=t.dim/\t.dim<=64:=by
 unfold may at h;split at h
 ·cases h
 ·rename_i hf
  unfold far at hf;simp at hf;omega
theorem b5S{t:Ty}(h:may t=true):IntKind.i32.wrap t.dim=t.dim:=by have:=may_dim h;unfold IntKind.wrap;simp[IntKind.bits,IntKind.signed];omega
end
section
open Go.Lx
def TkOk(l:List Tok):Prop:=∀x,x∈l->(-2147483648<=x.n/\x.n<=2147483647)/\x.text.length<=9223372036854775807
def L1(l:List Tok)(n:Nat):Tok:=l.getD n zeroK
theorem a2G{l:List Tok}{n:Nat}(h:n<l.length):l[n]?=some (L1 l n):=by unfold L1;rw[List.getD_eq_getElem?_getD,List.getElem?_eq_getElem h];rfl
def a4D(l:List Tok)(n:Nat)(kd:Int)(s:B):Bool:=
 decide ((n:Int)>=(l.length:Int))||((L1 l n).kind !=kd)||!((L1 l n).text==s)||((kd !=3)&&((L1 l n).n !=0))
def next(l:List Tok)(n:Nat)(kd:Int)(s:B):Bool:=!a4D l n kd s
def nx(b:Bool)(n:Nat):Nat:=if b then n+1 else n
theorem a4o{l:List Tok}{n:Nat}{kd:Int}{s:B}(h:next l n kd s=true):n<l.length:=by unfold next a4D at h;simp at h;omega
def a3B(l:List Tok)(n:Nat):List Pm->Option Int
 | []=>none
 |p::r=>if next l n 2 p.word then some p.kind else a3B l n r
theorem a7m(l:List Tok)(n:Nat){r:List Pm}{i:Nat}{p:Pm}(hp:r[i]?=some p):a3B l n (r.drop i)=if next l n 2 p.word then some p.kind else a3B l n (r.drop (i+1)):=by have h1:i<r.length:=(List.getElem?_eq_some_iff.1 hp).1;rw[List.drop_eq_getElem_cons h1,(List.getElem?_eq_some_iff.1 hp).2];rfl
def named(l:List Tok)(n:Nat):Option Int:=a3B l n prims
def nmB(l:List Tok)(n:Nat):Bool:=(named l n).isSome
def a5J(t:Ty):Option Int->Ty
 |some k=>{ t with kind:=k }
 |none=>t
def a7l(t:Ty):Option Int->Ty
 |some k=>{ t with item:=k }
 |none=>t
theorem b0J{l:List Tok}{n:Nat}:∀{r:List Pm}{k:Int},a3B l n r=some k->n<l.length
 |p::r,k,h=>by
  unfold a3B at h;split at h
  ·rename_i hn;exact a4o hn
  ·exact b0J h
theorem c7p{l:List Tok}{n:Nat}(h:nmB l n=true):n<l.length:=by
 unfold nmB at h;cases hn:named l n with
 |none=>rw[hn]at h;cases h
 |some k=>exact b0J hn
def pre(l:List Tok):Bool×Int×Nat:=
 if next l 0 5 lb then
  (if next l 1 3 []then
   (if decide ((L1 l 1).n>0)&&next l 2 5 rb then(true,(L1 l 1).n,3)else(false,(L1 l 1).n,2))
   else(false,0,1))
 else(true,0,0)
def mid(l:List Tok):Bool×Ty×Nat:=
 match pre l with
 |(false,d,n)=>(false,⟨0,d,0,[]⟩,n)
 |(true,d,n)=>
  match named l n with
  |some k=>(true,⟨k,d,0,[]⟩,n+1)
  |none=>
   if next l n 2 a1m then
    (if next l (n+1) 2 cOF then
     (match named l (n+2)with
      |some k=>(true,⟨4,d,k,[]⟩,n+3)
      |none=>if decide ((n+2:Nat)<(l.length:Int))&&next l (n+2) 1 (L1 l (n+2)).text then(true,⟨4,d,0,(L1 l (n+2)).text⟩,n+3)else(true,⟨4,d,0,[]⟩,n+2))
     else(false,⟨4,d,0,[]⟩,n+1))
   else if next l n 2 a3e then(true,⟨5,d,0,[]⟩,n+1)else(true,⟨0,d,0,[]⟩,n)
def front(l:List Tok):Ty×Nat×Int:=
 match mid l with
 |(ok,t,n)=>if !ok||!may t then(zeroT,0,90)else(t,n,0)
theorem c3l{b:Bool}{n L:Nat}(h1:b=true->n<L)(h2:n<=L):nx b n<=L:=by
 unfold nx;cases b
 ·exact h2
 ·exact h1 rfl
theorem b7n{l:List Tok}(h1:next l 0 5 lb=true)(h2:next l 1 3 []=true) :
 pre l=(decide ((L1 l 1).n>0)&&next l 2 5 rb,(L1 l 1).n,nx (decide ((L1 l 1).n>0)&&next l 2 5 rb) 2):=by
 unfold pre;rw[h1,h2];generalize (decide ((L1 l 1).n>0)&&next l 2 5 rb)=b;cases b<;>rfl
theorem c3V{l:List Tok}(h1:next l 0 5 lb=true)(h2:next l 1 3 []=false):pre l=(false,0,1):=by unfold pre;rw[h1,h2];rfl
theorem c1t{l:List Tok}(h1:next l 0 5 lb=false):pre l=(true,0,0):=by unfold pre;rw[h1];rfl
theorem c5t{l:List Tok}{ok:Bool}{d:Int}{n:Nat}(hP:pre l=(ok,d,n))(hc:(!ok||nmB l n)=true):mid l=(ok,a5J ⟨0,d,0,[]⟩ (if ok then named l n else none),nx (ok&&nmB l n) n):=by
 unfold mid;rw[hP];cases ok with
 |false=>rfl
 |true=>
  unfold nmB at hc⊢;cases hn:named l n with
  |none=>rw[hn]at hc;cases hc
  |some k=>simp only[hn];rfl
theorem b6t{l:List Tok}{n:Nat}(h:nmB l n=false):named l n=none:=by
 unfold nmB at h;cases hn:named l n with
 |none=>rfl
 |some k=>rw[hn]at h;cases h
theorem c1z{l:List Tok}{d:Int}{n N N2:Nat}{o b:Bool}{T2:Ty}(hP:pre l=(true,d,n))(hn:named l n=none)(h38:next l n 2 a1m=true)(ho:next l (n+1) 2 cOF=o)(hN:nx o (n+1)=N)(hN2:nx (o&&nmB l N) N=N2)
 (hT:a7l ⟨4,d,0,[]⟩ (if o then named l N else none)=T2) (hb:((o&&!nmB l N)&&decide ((N2:Int)<l.length)&&next l N2 1 (L1 l N2).text)=b) :
 mid l=(o,if b then { T2 with proto:=(L1 l N2).text }else T2,nx b N2):=by
 unfold mid;rw[hP];simp only[hn,h38,ho,if_true];cases o with
 |false=>subst hT hN2 hN;simp at hb;subst hb;rfl
 |true=>
  have e:N=n+2:=hN.symm;subst e;simp only[if_true];unfold nmB at hN2 hb;cases hm:named l (n+2)with
  |some k=>rw[hm]at hN2 hb hT;simp at hb;subst hb hT hN2;rfl
  |none=>
   rw[hm]at hN2 hb hT;have e:N2=n+2:=hN2.symm;subst e;have hb':(decide (((n+2:Nat):Int)<(l.length:Int))&&next l (n+2) 1 (L1 l (n+2)).text)=b:=by simpa using hb
   simp only[hb'];subst hT;cases b<;>rfl
theorem b3W{l:List Tok}{d:Int}{n:Nat}(hP:pre l=(true,d,n))(hn:named l n=none)(h38:next l n 2 a1m=false)(h73:next l n 2 a3e=true):mid l=(true,⟨5,d,0,[]⟩,n+1):=by unfold mid;rw[hP];simp only[hn,h38,h73,if_true,Bool.false_eq_true,if_false]
theorem b8k{l:List Tok}{d:Int}{n:Nat}(hP:pre l=(true,d,n))(hn:named l n=none)(h38:next l n 2 a1m=false)(h73:next l n 2 a3e=false):mid l=(true,⟨0,d,0,[]⟩,n):=by unfold mid;rw[hP];simp only[hn,h38,h73,Bool.false_eq_true,if_false]
theorem b4N{l:List Tok}{ok:Bool}{t:Ty}{n:Nat}(h:mid l=(ok,t,n))(hc:(!ok||!may t)=true):front l=(zeroT,0,90):=by unfold front;rw[h];simp only[hc,if_true]
theorem b1u{l:List Tok}{ok:Bool}{t:Ty}{n:Nat}(h:mid l=(ok,t,n))(hc:(!ok||!may t)=false):front l=(t,n,0):=by unfold front;rw[h];simp only[hc,Bool.false_eq_true,if_false]
theorem wrapN{z:Int}(h:-2147483648<=z/\z<=2147483647):IntKind.i64.wrap z=z:=by unfold IntKind.wrap;simp[IntKind.bits,IntKind.signed];omega
end
end Go.Ty
namespace Go.Ly
section
open Go.Eng
abbrev B:=List UInt8
structure Rw where
 no:Int
 depth:Int
 text:B
structure Pc where
 no:Nat
 ind:Nat
 text:B
def encB(s:B):List Value:=[str s]
theorem encB_len(s:B):(encB s).length=1:=rfl
set_option linter.defProp false in
@[reducible,instance]def iencB_len:=Go.Eng.Ln.mk encB_len (by decide)
def P4(r:Rw):List Value:=[.int .i64 r.no,.int .i64 r.depth,str r.text]
theorem F9(r:Rw):(P4 r).length=3:=rfl
set_option linter.defProp false in
@[reducible,instance]def iencR_len:=Go.Eng.Ln.mk F9 (by decide)
def b6L(acc:B):B->List B
 | []=>[acc]
 |c::l=>if c==10 then acc::b6L [] l else b6L (acc++[c]) l
def d0x(s:B):List B:=b6L [] s
theorem c5D:∀s:B,(Lib.indexByte s 10=-1/\(10:UInt8)∉s)\/∃a r,s=a++10::r/\(10:UInt8)∉a/\Lib.indexByte s 10=a.length
 | []=>.inl ⟨rfl,by simp⟩
 |c::l=>by
  unfold Lib.indexByte;by_cases hc:(c==10)=true
  ·rw[if_pos hc]
   exact .inr ⟨[],l,by rw[eq_of_beq hc];rfl,by simp,rfl⟩
  ·rw[if_neg hc]
   have hc':c≠10:=λe=>hc (by simp[e])
   rcases c5D l with⟨e,h⟩|⟨a,r,rfl,h,e⟩
   ·rw[e]
    exact .inl ⟨rfl,by simp[h,Ne.symm hc']⟩
   ·rw[e,if_neg (by simp)]
    exact .inr ⟨c::a,r,rfl,by simp[h,Ne.symm hc'],by simp⟩
def a8K:B->B
 | []=>[]
 |c::l=>if c==45&&l.head?==some 45 then[]else c::a8K l
theorem c6C(c:UInt8)(l:B):([45,45]:B).isPrefixOf (c::l)=(c==45&&l.head?==some 45):=by
 cases l with
 |nil=>simp[List.isPrefixOf]
 |cons d l=>simp only[List.isPrefixOf,List.head?_cons,Bool.and_true];rw[show((45:UInt8)==c)=(c==45) from Bool.beq_comm,show((45:UInt8)==d)=(some d==some 45) from(Bool.beq_comm:((45:UInt8)==d)=(d==45))]
theorem c2c:∀s:B,(Lib.cut s [45,45]).1=a8K s
 | []=>rfl
 |c::l=>by
  have ih:=c2c l;have hge:=Lib.index_ge l [45,45];unfold Lib.cut at ih⊢;unfold a8K Lib.index;rw[c6C];by_cases hc:(c==45&&l.head?==some 45)=true
  ·rw[if_pos hc,if_pos hc];rfl
  ·rw[if_neg hc,if_neg hc,<-ih]
   by_cases hi:Lib.index l [45,45]=-1
   ·have e1:(Lib.index l [45,45]==-1)=true:=by simp[hi]
    simp only[e1,if_true];rw[if_neg (by decide),if_neg (by omega)]
   ·have e1:(Lib.index l [45,45]==-1)=false:=by simpa using hi
    simp only[e1,Bool.false_eq_true,if_false];rw[if_pos (by omega),if_pos (by omega)];rw[show(Lib.index l [45,45]+1).toNat=(Lib.index l [45,45]).toNat+1 by omega];rfl
def c6y(s:B):B:=Lib.trimRightB (a8K s) 32
def txt(s:B):B:=Lib.trimLeftB (c6y s) 32
def ind(s:B):Nat:=(c6y s).length-(txt s).length
def b2v:B:=[44,59,40,91,43,45,42,47,92,61,60,62,126,38]
def a8J(s:B):Bool:=match s.getLast? with
 |none=>false
 |some c=>b2v.contains c
theorem b5r(c:UInt8):∀l:B,decide (Lib.indexByte l c>=0)=l.contains c
 | []=>rfl
 |x::l=>by
  have ih:=b5r c l;have hge:=Lib.indexByte_ge l c;unfold Lib.indexByte;rw[List.contains_cons,show(c==x)=(x==c) from Bool.beq_comm];by_cases h:(x==c)=true
  ·rw[if_pos h,h];rfl
  ·rw[if_neg h,show(x==c)=false by simpa using h,Bool.false_or,<-ih]
   by_cases hi:Lib.indexByte l c=-1
   ·rw[if_pos (by simp[hi]),hi]
   ·rw[if_neg (by simpa using hi)]
    apply decide_eq_decide.2;omega
def okB(c:UInt8):Bool:=decide ((c.toNat:Int)>=32)&&decide ((c.toNat:Int)<=126)
structure S where
 parts:List B
 first:Pc
 before:Int
 last:Nat
 out:List Rw
abbrev Out:=List Rw×Nat×Nat
def b2z(s:S):B:=Lib.join s.parts [32]
def c9a(s:S):Bool:=decide (s.first.ind/2>32)||decide ((b2z s).length>256)||decide (s.out.length=2048)
def c8r(s:S):S:=⟨[],s.first,(s.first.ind/2:Nat),s.last,s.out++[⟨s.first.no,(s.first.ind/2:Nat),b2z s⟩]⟩
def c8R(k:S->Out)(s:S):Out:=if a8J (b2z s)then k s else if c9a s then([],s.first.no,3)else k (c8r s)
def c6Q(s:S)(p:Pc):Bool:=!s.parts.isEmpty&&decide (p.ind<s.first.ind)
def c6R(s:S)(p:Pc):Bool:=s.parts.isEmpty&&(decide (p.ind%2=1)||decide (((p.ind/2:Nat):Int)>s.before+1))
def b1C(s:S)(p:Pc):S:=⟨s.parts++[p.text],if s.parts.isEmpty then p else s.first,s.before,p.no,s.out⟩
def run:List Pc->S->Out
 | [],s=>if s.parts.isEmpty then(s.out,0,0)else([],s.last,5)
 |p::ps,s=>if c6Q s p then([],p.no,70)else if c6R s p then([],p.no,70)else c8R (run ps) (b1C s p)
def s0:S:=⟨[],⟨0,0,[]⟩,-1,0,[]⟩
theorem b45(p:Pc)(ps:List Pc)(s:S):run (p::ps) s=if c6Q s p then([],p.no,70)else if c6R s p then([],p.no,70)else c8R (run ps) (b1C s p):=rfl
end
section
open Go.Eng
theorem b9x(ps:List B)(t:B):Lib.join (ps++[t]) [32]=if ps.isEmpty then t else Lib.join ps [32]++32::t:=by
 cases ps with
 |nil=>exact Lib.join_one t [32]
 |cons x r=>rw[List.cons_append,Lib.join_cons,Lib.join_cons];simp[Lib.joinTail]
theorem b9H(s:S)(p:Pc):b2z (b1C s p)=if s.parts.isEmpty then p.text else b2z s++32::p.text:=b9x _ _
structure PcOk(p:Pc):Prop where
 ne:p.text≠[]
 len:p.text.length<=65536
 ind:p.ind<=65536
 no:p.no<=65537
structure Inv(N:Nat)(s:S):Prop where
 cnt:s.parts.length+s.out.length<=N
 txt:(b2z s).length<=N*65537
 bef:-1<=s.before/\s.before<=65536
 ind:s.first.ind<=65536
 out:s.out.length<=2048
theorem Inv.take{N:Nat}{s:S}{p:Pc}(h:Inv N s)(hp:PcOk p):Inv (N+1) (b1C s p):=by
 have h1:=h.cnt;have h2:=h.txt;have h3:=hp.len;have h4:=h.ind;have h5:=hp.ind;refine⟨by simp only[b1C,List.length_append,List.length_singleton];omega,?_,h.bef,?_,h.out⟩
 ·rw[b9H]
  split
  ·omega
  ·simp
   omega
 ·simp only[b1C]
  split<;>omega
end
section
open Go.Eng
theorem W5{α:Type}{l:List α}{k:Nat}{c:α}(hc:l[k]?=some c):l.drop k=c::l.drop (k+1):=by have h1:k<l.length:=(List.getElem?_eq_some_iff.1 hc).1;rw[List.drop_eq_getElem_cons h1,(List.getElem?_eq_some_iff.1 hc).2]
theorem U5{α:Type}{l:List α}{k:Nat}{c:α}(hc:l[k]?=some c):l.take (k+1)=l.take k++[c]:=take_snoc hc
theorem b7v{l:B}{c:UInt8}(h:(c==32)=false):Lib.trimRightB (l++[c]) 32=l++[c]:=by simp[Lib.trimRightB,h]
theorem Inv.mono{N N':Nat}{s:S}(h:Inv N s)(hn:N<=N'):Inv N' s:=by have h1:=h.cnt;have h2:=h.txt;exact⟨Nat.le_trans h1 hn,Nat.le_trans h2 (Nat.mul_le_mul_right 65537 hn),h.bef,h.ind,h.out⟩
end
section
open Go.Eng
def c0q(s:B):Bool:=(((((s==[])||decide ((s.length:Int)>256))||(Lib.trimB s 32 !=s))||Lib.contains s [45,45])||a8J s)
def validP(s:B):Bool:=!c0q s&&s.all okB
def b1b(no depth:Int)(x:Rw):Bool:=((((decide (x.no<=no)||decide (x.no>65536))||decide (x.depth<0))||decide (x.depth>if 32<depth+1 then 32 else depth+1))||!validP x.text)
def b1c(no depth size:Int):List Rw->Bool
 | []=>decide (size<=65537)
 |x::r=>if b1b no depth x then false else b1c x.no x.depth (size+2*x.depth+x.text.length+1) r
def mayP(l:List Rw):Bool:=if(l.length:Int)>2048 then false else b1c 0 (-1) 0 l
theorem b2w{no depth size:Int}{l:List Rw}{k:Nat}{x:Rw}(hx:l[k]?=some x):b1c no depth size (l.drop k)=if b1b no depth x then false else b1c x.no x.depth (size+2*x.depth+x.text.length+1) (l.drop (k+1)):=by rw[W5 hx];rfl
theorem validP_spec{s:B}(h:validP s=true):s≠[]/\s.length<=256/\Lib.trimB s 32=s/\Lib.contains s [45,45]=false/\a8J s=false/\s.all okB=true:=by simp only[validP,c0q,Bool.and_eq_true,Bool.not_eq_true',Bool.or_eq_false_iff,decide_eq_false_iff_not,bne_eq_false_iff_eq,beq_eq_false_iff_ne]at h;obtain⟨⟨⟨⟨⟨h1,h2⟩,h3⟩,h4⟩,h5⟩,h6⟩:=h;exact⟨h1,by omega,h3,h4,h5,h6⟩
theorem b3x{no depth:Int}{x:Rw}(h:b1b no depth x=false):no<x.no/\x.no<=65536/\0<=x.depth/\x.depth<=depth+1/\x.depth<=32/\validP x.text=true:=by simp only[b1b,Bool.or_eq_false_iff,decide_eq_false_iff_not,Bool.not_eq_false']at h;obtain⟨⟨⟨⟨h1,h2⟩,h3⟩,h4⟩,h5⟩:=h;split at h4<;>exact⟨by omega,by omega,by omega,by omega,by omega,h5⟩
theorem mayA_all:∀{l:List Rw}{no depth size:Int},b1c no depth size l=true->∀x∈l,0<=x.depth/\x.depth<=32/\validP x.text=true
 | [],_,_,_,_,x,hx=>by cases hx
 |y::r,no,depth,size,h,x,hx=>by
  unfold b1c at h;split at h
  ·cases h
  ·rename_i hb
   obtain⟨h1,h2,h3,h4,h5,h6⟩:=b3x (by simpa using hb);rcases List.mem_cons.1 hx with rfl|hx
   ·exact⟨h3,h5,h6⟩
   ·exact mayA_all h x hx
theorem mayP_all{l:List Rw}(h:mayP l=true):l.length<=2048/\∀x∈l,0<=x.depth/\x.depth<=32/\x.text.length<=256:=by
 unfold mayP at h;split at h
 ·cases h
 ·exact⟨by omega,λx hx=>by obtain⟨h1,h2,h3⟩:=mayA_all h x hx;exact⟨h1,h2,(validP_spec h3).2.1⟩⟩
def eqR(x y:Rw):Bool:=x.no==y.no&&(x.depth==y.depth&&(x.text==y.text&&true))
theorem b3t(x y:Rw):eqR x y=true↔x=y:=by
 cases x;cases y
 simp[eqR]
theorem b3u{x y:Rw}(h:(!eqR x y)=true):eqR x y=false:=by simpa using h
theorem b2O{x y:Rw}(h:(!eqR x y)=false):eqR x y=true:=by simpa using h
end
end Go.Ly
namespace Go.Sx
section
open Go.Eng Go.Pc Go
open Go.Xp hiding B
open Go.Ty (Ty Vr Tok)
open Go.Ly (Rw)
abbrev E(α:Type):=Except Int (α×List Tok)
def S3{α β:Type}(r:E α)(f:α->List Tok->E β):E β:=match r with
 | .ok (x,ts)=>f x ts
 | .error e=>.error e
def isM(k:Int)(s:B):List Tok->Bool
 | []=>false
 |t::_=>(t.kind==k)&&(t.text==s)
def a0P{β:Type}(k:Int)(s:B)(ts:List Tok)(f:List Tok->E β):E β:=if isM k s ts then f ts.tail else .error 110
def a0j:List Tok->E B
 | []=>.error 110
 |t::r=>if t.kind=1 then .ok (t.text,r)else .error 110
def P5(ts:List Tok):E Ex:=match U9 ts with
 | .ok (x,k)=>.ok (x,ts.drop k)
 | .error _=>.error 110
def N8(ts:List Tok):E Ex:=if(ts.headD Go.Ty.zeroK).kind=1 then S3 (P5 ts) λx r=>if F5 x then .ok (x,r)else .error 110 else .error 110
def b0a(ts:List Tok):E Ty:=if(Go.Ty.front ts).2.2=0 then .ok ((Go.Ty.front ts).1,ts.drop (Go.Ty.front ts).2.1)else .error 110
def a6Z(ts:List Tok):E Int:=S3 (b0a ts) λt r=>if X3 t then .ok (t.kind,r)else .error 110
def a5O(ts:List Tok):E Fo:=S3 (b0a (if isM 2 [86,65,76] ts then ts.tail else ts)) λt r=>S3 (a0j r) λn r=>if foP ⟨isM 2 [86,65,76] ts,t,n⟩then .ok (⟨isM 2 [86,65,76] ts,t,n⟩,r)else .error 110
def a3I{α:Type}(take:List Tok->E α)(sep:B):Nat->List α->List Tok->E (List α)
 |0,acc,ts=>if isM 5 sep ts then .error 110 else .ok (acc,ts)
 |n+1,acc,ts=>if isM 5 sep ts then S3 (take ts.tail) λx r=>a3I take sep n (acc++[x]) r else .ok (acc,ts)
def U0{α:Type}(take:List Tok->E α)(sep:B)(most:Nat)(ts:List Tok):E (List α):=S3 (take ts) λx r=>a3I take sep (most-1) [x] r
def brM{α:Type}(take:List Tok->E α)(ts:List Tok):E (List α):=a0P 5 [40] ts λr=>if isM 5 [41] r then .ok ([],r.tail)else S3 (U0 take [44] 8 r) λl r=>a0P 5 [41] r λr=>.ok (l,r)
def F2:Rp:=⟨[],A2,A2⟩
def b6i(ts:List Tok):E Rp:=if ts.isEmpty then .ok (F2,ts)else S3 (a0j ts) λn r=>a0P 5 [61] r λr=>S3 (P5 r) λb r=>a0P 2 [70,79,82] r λr=>S3 (P5 r) λc r=>.ok (⟨n,b,c⟩,r)
def sl{α:Type}(l:List α):Sli α:=⟨none,0,l⟩
def guM(k:Int)(nm:B)(cond ch:Ex)(tg vl:List Ex)(time:Ex):Gu:=.mk k nm cond ch (sl tg) (sl vl) time none 0 []
def ifM(ts:List Tok):E Gu:=S3 (P5 ts) λc r=>.ok (guM 1 [] c A2 [] [] A2,r)
def b4J(ts:List Tok):Bool:=match U9 ts with
 | .ok (_,n)=>isM 5 [38] (ts.drop n)
 | .error _=>false
def b2D(c:Ex)(ts:List Tok):E Gu:=S3 (N8 ts) λch r=>a0P 5 [63] r λr=>if isM 2 [65,70,84,69,82] r then S3 (P5 r.tail) λt r=>.ok (guM 4 [] c ch [] [] t,r)else S3 (U0 N8 [59] 8 r) λl r=>.ok (guM 3 [] c ch l [] A2,r)
def a9i(ts:List Tok):E Gu:=if b4J ts then S3 (P5 ts) λc r=>a0P 5 [38] r λr=>if isM 2 [83,75,73,80] r then .ok (guM 2 [] c A2 [] [] A2,r.tail)else b2D c r else b2D A2 ts
def b9c(ts:List Tok):E Gu:=if isM 2 [69,76,83,69] ts then .ok (guM 6 [] A2 A2 [] [] A2,ts.tail)else S3 (U0 P5 [44] 8 ts) λl r=>.ok (guM 5 [] A2 A2 [] l A2,r)
def b6z(ts:List Tok):E Gu:=S3 (a0j ts) λn r=>if isM 5 [59] r then S3 (U0 N8 [59] 8 r.tail) λl r=>.ok (guM 7 n A2 A2 l [] A2,r)else .ok (guM 7 n A2 A2 [] [] A2,r)
abbrev PE(α:Type):=Except (Int×Nat) (α×Nat)
def U6{α β:Type}(r:PE α)(f:α->Nat->PE β):PE β:=match r with
 | .ok (x,i)=>f x i
 | .error e=>.error e
def L0{α β:Type}(r:E α)(i:Nat)(f:α->List Tok->PE β):PE β:=match r with
 | .ok (x,ts)=>f x ts
 | .error e=>.error (e,i)
def I0{β:Type}(ts:List Tok)(i:Nat)(f:Nat->PE β):PE β:=if ts.isEmpty then f (i+1)else .error (110,i)
def a0l{β:Type}(k:Int)(s:B)(ts:List Tok)(i:Nat)(f:List Tok->PE β):PE β:=if isM k s ts then f ts.tail else .error (110,i)
section
variable (R:List Rw)
def S4(d:Int)(i:Nat):Bool:=match R[i]? with
 |some x=>x.depth==d
 |none=>false
def a1Z(d:Int)(i:Nat):Except (Int×Nat) (List Tok):=match R[i]? with
 |none=>.error (110,i)
 |some x=>if(Go.Lx.lexO x.text).2.2≠0 then .error ((Go.Lx.lexO x.text).2.2,i)else if x.depth≠d then .error (110,i)else .ok (Go.Lx.lexO x.text).1
def a2n{β:Type}(d:Int)(i:Nat)(f:List Tok->PE β):PE β:=match a1Z R d i with
 | .ok ts=>f ts
 | .error e=>.error e
def a3P{β:Type}(d:Int)(k:Int)(s:B)(i:Nat)(f:Nat->PE β):PE β:=a2n R d i λts=>a0l k s ts i λr=>I0 r i f
def prM(k:Int)(nm:B)(ch:Ex)(tg ex:List Ex)(rep:Rp)(gl:List Gu)(ll:List Pr)(pn:List Int)(sp:Sp):Pr:=.mk k nm ch (sl tg) (sl ex) rep none 0 gl none 0 ll (sl pn) sp
def spM(k:Int)(ty:Ty)(names:List B)(e:Ex)(cs:Bool)(vs:List Vr)(fs:List Fo)(bl:List Pr):Sp:=.mk k ty (sl names) e cs (sl vs) (sl fs) none 0 bl
def b8H(g:Gu)(x:Pr):Gu:=.mk g.k g.name g.cond g.ch g.tg g.vl g.time none 0 [x]
variable (rec:Int->Bool->Nat->PE Pr)
def a1o(row:List Tok->E Gu)(least most:Nat)(d:Int):Nat->List Gu->Nat->PE (List Gu)
 |0,acc,i=>if acc.length<least then .error (110,i)else .ok (acc,i)
 |k+1,acc,i=>if acc.length<least\/(acc.length<most/\S4 R d i=true)then a2n R d i λts=>L0 (row ts) i λg r=>I0 r i λi=>U6 (rec (d+1) false i) λx i=>a1o row least most d k (acc++[b8H g x]) i
  else .ok (acc,i)
def a3o(row:List Tok->E Gu)(least most:Nat)(d:Int)(i:Nat):PE (List Gu):=a1o R rec row least most d (R.length-i) [] i
def a3K(d:Int):Nat->List Pr->Nat->PE (List Pr)
 |0,acc,i=>.ok (acc,i)
 |k+1,acc,i=>if S4 R d i then U6 (rec d false i) λx i=>a3K d k (acc++[x]) i else .ok (acc,i)
def b9b(k:Int)(ts:List Tok)(i:Nat):PE Pr:=I0 ts i λi=>.ok (prM k [] A2 [] [] F2 [] [] [] C3,i)
def a4Z(k:Int)(d:Int)(ts:List Tok)(i:Nat):PE Pr:=L0 (b6i ts) i λr ts=>I0 ts i λi=>
 if r.name≠[]then U6 (rec (d+1) false i) λx i=>.ok (prM k [] A2 [] [] r [] [x] [] C3,i)
 else U6 (a3K R rec (d+1) (R.length-i) [] i) λl i=>.ok (prM k [] A2 [] [] r [] l [] C3,i)
def a2p(k:Int)(row:List Tok->E Gu)(d:Int)(ts:List Tok)(i:Nat):PE Pr:=L0 (b6i ts) i λr ts=>I0 ts i λi=>U6 (a3o R rec row (if r.name≠[]then 1 else 0) (if r.name≠[]then 1 else 16) (d+1) i) λl i=>.ok (prM k [] A2 [] [] r l [] [] C3,i)
def c7I(d:Int)(ts:List Tok)(i:Nat):PE Pr:=if isM 2 [80,65,82] ts then I0 ts.tail i λi=>U6 (rec (d+1) false i) λx i=>U6 (rec (d+1) false i) λy i=>.ok (prM 10 [] A2 [] [] F2 [] [x,y] [] C3,i)
 else a0l 2 [65,76,84] ts i λr=>a2p R rec 13 a9i d r i
def c7z(d:Int)(ts:List Tok)(i:Nat):PE Pr:=L0 (P5 ts) i λe r=>I0 r i λi=>U6 (a3o R rec b9c 0 16 (d+1) i) λl i=>.ok (prM 15 [] A2 [] [e] F2 l [] [] C3,i)
def c2h(d:Int)(ts:List Tok)(i:Nat):PE Pr:=L0 (P5 ts) i λe r=>I0 r i λi=>U6 (rec (d+1) false i) λx i=>.ok (prM 16 [] A2 [] [e] F2 [] [x] [] C3,i)
def b8t(ts:List Tok):Option Int:=match ts with
 | [t]=>if t.kind=3/\0<=t.n/\t.n<8 then some t.n else none
 |_=>none
def a0B(d:Int):Nat->List Int->List Pr->Nat->PE (List Int×List Pr)
 |0,ns,acc,i=>if acc.length=0 then .error (110,i)else .ok ((ns,acc),i)
 |k+1,ns,acc,i=>if acc.length=0\/(acc.length<8/\S4 R (d+1) i=true)then a2n R (d+1) i λts=>a0l 2 [80,82,79,67,69,83,83,79,82] ts i λr=>match b8t r with
  |some n=>U6 (rec (d+2) false (i+1)) λx i=>a0B d k (ns++[n]) (acc++[x]) i
  |none=>.error (110,i)
  else .ok ((ns,acc),i)
def a8R(d:Int)(ts:List Tok)(i:Nat):PE Pr:=a0l 2 [80,65,82] ts i λr=>I0 r i λi=>U6 (a0B R rec d (R.length-i) [] [] i) λx i=>.ok (prM 11 [] A2 [] [] F2 [] x.2 x.1 C3,i)
def a5L(d:Int)(ts:List Tok)(i:Nat):PE Pr:=
 if(ts.headD Go.Ty.zeroK).kind=1/\isM 5 [40] ts.tail=true then L0 (a0j ts) i λn r=>L0 (brM P5 r) i λl r=>I0 r i λi=>.ok (prM 17 n A2 [] l F2 [] [] [] C3,i)
 else L0 (U0 N8 [44] 8 ts) i λf r=>
  if isM 5 [58,61] r then L0 (U0 P5 [44] 8 r.tail) i λl r=>I0 r i λi=>.ok (prM 3 [] A2 f l F2 [] [] [] C3,i)
  else if f.length>1 then .error (110,i)
  else if isM 5 [33] r then L0 (U0 P5 [59] 9 r.tail) i λl r=>I0 r i λi=>.ok (prM 5 [] (f.headD A2) [] l F2 [] [] [] C3,i)
  else a0l 5 [63] r i λr=>
   if isM 2 [67,65,83,69] r then I0 r.tail i λi=>U6 (a3o R rec b6z 1 16 (d+1) i) λl i=>.ok (prM 7 [] (f.headD A2) [] [] F2 l [] [] C3,i)
   else if isM 2 [65,70,84,69,82] r then L0 (P5 r.tail) i λe r=>I0 r i λi=>.ok (prM 6 [] (f.headD A2) [] [e] F2 [] [] [] C3,i)
   else L0 (U0 N8 [59] 8 r) i λl r=>I0 r i λi=>.ok (prM 4 [] (f.headD A2) l [] F2 [] [] [] C3,i)
def vrM(tag:B)(l:List Int):Vr:=⟨tag,none,l.length,0,l⟩
def a2S(ts:List Tok):E Vr:=S3 (a0j ts) λn r=>if isM 5 [59] r then S3 (U0 a6Z [59] 8 r.tail) λl r=>.ok (vrM n l,r)else .ok (vrM n [],r)
def a2g(d:Int):Nat->List Vr->Nat->PE (List Vr)
 |0,acc,i=>if acc.length=0 then .error (110,i)else .ok (acc,i)
 |k+1,acc,i=>if acc.length=0\/S4 R (d+2) i=true then a2n R (d+2) i λts=>L0 (a2S ts) i λv r=>if Go.Ty.mayPr true (acc++[v])then I0 r i λi=>a2g d k (acc++[v]) i else .error (110,i)
  else .ok (acc,i)
def a84(d:Int)(ts:List Tok)(i:Nat):PE (Bool×List Vr):=
 if isM 2 [73,83] ts then L0 (U0 a6Z [59] 8 ts.tail) i λl r=>a0l 5 [58] r i λr=>I0 r i λi=>.ok ((false,[vrM [] l]),i)
 else I0 ts i λi=>a3P R (d+1) 2 [67,65,83,69] i λi=>U6 (a2g R d (R.length-i) [] i) λl i=>a3P R d 5 [58] i λi=>.ok ((true,l),i)
def b5s(s:Sp)(ts:List Tok)(i:Nat):PE (Option Sp):=a0l 5 [58] ts i λr=>if spP s then I0 r i λi=>.ok (some s,i)else .error (110,i)
def a8n(d:Int)(ts:List Tok)(i:Nat):PE (Option Sp):=
 if isM 2 [80,82,79,84,79,67,79,76] ts then L0 (a0j ts.tail) i λn r=>U6 (a84 R d r i) λp i=>.ok (some (spM 4 Go.Ty.zeroT [n] A2 p.1 p.2 [] []),i)
 else if isM 2 [80,82,79,67] ts then L0 (a0j ts.tail) i λn r=>L0 (brM a5O r) i λfs r=>I0 r i λi=>U6 (rec (d+1) false i) λx i=>a3P R d 5 [58] i λi=>.ok (some (spM 5 Go.Ty.zeroT [n] A2 false [] fs [x]),i)
 else if isM 2 [86,65,76] ts then L0 (b0a ts.tail) i λt r=>L0 (a0j r) i λn r=>a0l 2 [73,83] r i λr=>L0 (P5 r) i λe r=>b5s (spM 2 t [n] e false [] [] []) r i
 else if isM 5 [91] ts||isM 2 [73,78,84] ts||isM 2 [66,89,84,69] ts||isM 2 [66,79,79,76] ts||isM 2 [67,72,65,78] ts||isM 2 [84,73,77,69,82] ts then L0 (b0a ts) i λt r=>L0 (U0 a0j [44] 8 r) i λns r=>if isM 2 [73,83] r then L0 (N8 r.tail) i λe r=>b5s (spM 3 t ns e false [] [] []) r i else b5s (spM 1 t ns A2 false [] [] []) r i
 else .ok (none,i)
def a5c(s:B):Option (Int->List Tok->Nat->PE Pr):=
 if s=[83,75,73,80]then some λ_ ts i=>b9b 1 ts i else if s=[83,84,79,80]then some λ_ ts i=>b9b 2 ts i
 else if s=[83,69,81]then some (a4Z R rec 8)else if s=[80,65,82]then some (a4Z R rec 9)
 else if s=[80,82,73]then some (c7I R rec)else if s=[65,76,84]then some (a2p R rec 12 a9i)else if s=[73,70]then some (a2p R rec 14 ifM)
 else if s=[67,65,83,69]then some (c7z R rec)else if s=[87,72,73,76,69]then some (c2h rec)else if s=[80,76,65,67,69,68]then some (a8R R rec)else none
def a8t(d:Int)(top:Bool)(ts:List Tok)(i:Nat):PE Pr:=match ts with
 | []=>.error (110,i)
 |t::r=>match a5c R rec t.text with
  |some f=>if t.kind=2/\(top=true\/t.text≠[80,76,65,67,69,68])then f d r i else a5L R rec d ts i
  |none=>a5L R rec d ts i
def c6E(d:Int)(top:Bool)(i:Nat):PE Pr:=a2n R d i λts=>U6 (a8n R rec d ts i) λso i=>match so with
 |some s=>U6 (rec d top i) λx i=>.ok (prM 18 [] A2 [] [] F2 [] [x] [] s,i)
 |none=>a8t R rec d top ts i
end
def C7(R:List Rw):Nat->Int->Bool->Nat->PE Pr
 |0=>λ_ _ i=>.error (110,i)
 |n+1=>c6E R (C7 R n)
def b3M(R:List Rw):PE Pr:=U6 (C7 R R.length 0 true 0) λx i=>match R[i]? with
 |none=>.ok (x,i)
 |some y=>.error (if(Go.Lx.lexO y.text).2.2≠0 then(Go.Lx.lexO y.text).2.2 else 110,i)
def T7(R:List Rw):Pr×Nat×Int:=if Go.Ly.mayP R then(match b3M R with
 | .ok (x,_)=>(x,0,0)
 | .error (e,i)=>(prM 0 [] A2 [] [] F2 [] [] [] C3,i,e))else(prM 0 [] A2 [] [] F2 [] [] [] C3,0,2)
end
end Go.Sx
namespace Go.Lx
section
open Go.Ty
theorem b4k(s:B):(O3 s).2<=s.length:=by
 unfold O3;split
 ·exact Nat.zero_le _
 ·rename_i h
  have h1:1<=s.length:=by
   cases s with
   |nil=>exact absurd rfl h
   |cons a t=>simp
  split
  ·exact h1
  ·split
   ·exact Nat.zero_le _
   ·rename_i h2
    have h2:2<=s.length:=by simp at h2;omega
    split
    ·exact h2
    ·split
     ·exact Nat.zero_le _
     ·rename_i h4
      have h4:4<=s.length:=by simp at h4;omega
      split
      ·exact Nat.zero_le _
      ·exact h4
theorem b7e(r:B):(tok r).2<=r.length:=by
 have h0:=a6H r;have h1:=a6H (r.drop 1);have h2:=b4k (r.drop 1);have h3:(r.drop 1).length=r.length-1:=List.length_drop;cases r with
 |nil=>decide
 |cons c r=>
  simp only[List.length_cons]at h0 h1 h2 h3⊢;unfold tok;split
  ·unfold a4F
   split
   ·exact h0
   ·split
    ·exact Nat.zero_le _
    ·exact h0
  ·split
   ·unfold b0U
    split
    ·exact Nat.zero_le _
    ·split
     ·exact Nat.zero_le _
     ·split
      ·exact Nat.zero_le _
      ·exact h0
   ·split
    ·unfold b3I
     split
     ·exact Nat.zero_le _
     ·split
      ·exact Nat.zero_le _
      ·show 1+run (List.drop 1 (c::r))<=_
       omega
    ·split
     ·unfold a1e
      split
      ·exact Nat.zero_le _
      ·rename_i h
       unfold noQ at h;simp only[Bool.not_eq_true,Bool.or_eq_false_iff]at h;have:(O3 (List.drop 1 (c::r))).2≠(List.drop 1 (c::r)).length:=λe=>by
        have:=h.1.2;rw[e]at this;simp at this
       show(O3 (List.drop 1 (c::r))).2+2<=_;omega
     ·unfold a8j
      split
      ·rename_i h
       simp only[Bool.and_eq_true,decide_eq_true_eq]at h;exact h.1
      ·split
       ·show 1<=_
        omega
       ·exact Nat.zero_le _
def b0E(r:B):Nat->Tok×Nat
 |0=>(zeroK,0)
 |k+1=>if sym (r.take (k+1))then(⟨5,0,r.take (k+1),0⟩,k+1)else b0E r k
theorem c1J(r:B):a8j r=b0E r (min 2 r.length):=by
 match r with
 | []=>rfl
 | [a]=>rfl
 |a::b::s=>rw[show min 2 (a::b::s).length=2 by simp];unfold a8j b0E b0E b0E;simp
theorem J6:∀(n k1 k2:Nat)(r:B)(p:Nat),r.length<=n->n<=k1->n<=k2->a8G k1 r p=a8G k2 r p
 |_,k1,k2,[],p,_,_,_=>by cases k1<;>cases k2<;>rfl
 |0,_,_,c::r,p,h,_,_=>by simp at h
 |n+1,k1,k2,c::r,p,h,h1,h2=>by
  obtain⟨j1,rfl⟩:∃j,k1=j+1:=⟨k1-1,by omega⟩;obtain⟨j2,rfl⟩:∃j,k2=j+1:=⟨k2-1,by omega⟩;have hr:r.length<=n:=by simpa using h
  unfold a8G;rw[J6 n j1 j2 r (p+1) hr (by omega) (by omega)];by_cases hn:(tok (c::r)).2==0
  ·simp only[hn,if_true]
  ·have hn':(tok (c::r)).2≠0:=by simpa using hn
   rw[J6 n j1 j2 ((c::r).drop (tok (c::r)).2) (p+(tok (c::r)).2) (by rw[List.length_drop,List.length_cons];omega) (by omega) (by omega)]
def lx(r:B)(p:Nat):Except Nat (List Tok):=a8G r.length r p
def a6P(l:List Tok):Except Nat (List Tok)->Except Nat (List Tok)
 | .ok m=>.ok (l++m)
 | .error e=>.error e
theorem c2U(x:Except Nat (List Tok)):a6P [] x=x:=by cases x<;>rfl
theorem c2L(l m:List Tok)(x:Except Nat (List Tok)):a6P l (a6P m x)=a6P (l++m) x:=by
 cases x with
 |error e=>rfl
 |ok k=>simp[a6P]
theorem c6Z(p:Nat):lx [] p=.ok []:=rfl
theorem a9B(r:B)(p:Nat):lx (32::r) p=lx r (p+1):=by show a8G (r.length+1) (32::r) p=_;unfold a8G;rw[if_pos (by decide)];rfl
theorem lx_bad{c:UInt8}{r:B}{p:Nat}(hc:c≠32)(hn:(tok (c::r)).2=0):lx (c::r) p=.error p:=by
 have e:((c.toNat:Int)==32)=false:=by
  cases h:(c.toNat:Int)==32 with
  |false=>rfl
  | true => exact absurd (UInt8.toNat.inj (by have := eq_of_beq h; have e : c.toNat = 32 := by exact_mod_cast this
                                              rw[e];rfl)) hc
 show(if(c.toNat:Int)==32 then _ else if(tok (c::r)).2==0 then Except.error p else _)=_;rw[e,hn];rfl
theorem lx_tok{c:UInt8}{r:B}{p:Nat}(hc:c≠32)(hn:(tok (c::r)).2≠0):lx (c::r) p=a6P [{ (tok (c::r)).1 with at_:=p }] (lx ((c::r).drop (tok (c::r)).2) (p+(tok (c::r)).2)):=by
 have e:((c.toNat:Int)==32)=false:=by
  cases h:(c.toNat:Int)==32 with
  |false=>rfl
  | true => exact absurd (UInt8.toNat.inj (by have := eq_of_beq h; have e : c.toNat = 32 := by exact_mod_cast this
                                              rw[e];rfl)) hc
 have e2:((tok (c::r)).2==0)=false:=by simpa using hn
 show(if(c.toNat:Int)==32 then _ else if(tok (c::r)).2==0 then Except.error p else match a8G r.length ((c::r).drop (tok (c::r)).2) (p+(tok (c::r)).2)with
  | .ok l=>.ok ({ (tok (c::r)).1 with at_:=p }::l)
  | .error e=>.error e)=_
 rw[e,e2];simp only[Bool.false_eq_true,if_false];rw[J6 ((c::r).drop (tok (c::r)).2).length r.length ((c::r).drop (tok (c::r)).2).length _ _ (Nat.le_refl _) (by rw[List.length_drop,List.length_cons];omega) (Nat.le_refl _)];unfold lx;cases a8G ((c::r).drop (tok (c::r)).2).length ((c::r).drop (tok (c::r)).2) (p+(tok (c::r)).2)<;>rfl
def d0l:Except Nat (List Tok)->List Tok×Int×Int
 | .ok l=>(l,0,0)
 | .error a=>([],a,80)
theorem a6d{s:B}(h:decide ((s.length:Int)>256)=true):lexO s=([],0,3):=by unfold lexO;rw[h];rfl
theorem a6u{s:B}(h:decide ((s.length:Int)>256)=false):lexO s=d0l (lx s 0):=by unfold lexO lx;rw[h];cases a8G s.length s 0<;>rfl
theorem W5{s:B}{p:Nat}{c:UInt8}(h:s[p]?=some c):s.drop p=c::s.drop (p+1):=by have h1:p<s.length:=(List.getElem?_eq_some_iff.1 h).1;rw[List.drop_eq_getElem_cons h1,(List.getElem?_eq_some_iff.1 h).2]
theorem b6g{s:B}{p:Nat}{l:List Tok}(h:s[p]?=some 32)(hJ:lx s 0=a6P l (lx (s.drop p) p)):lx s 0=a6P l (lx (s.drop (p+1)) (p+1)):=by rw[W5 h,a9B]at hJ;exact hJ
theorem c1S{s:B}{p:Nat}{c:UInt8}{l:List Tok}(h:s[p]?=some c)(hc:c≠32)(hn:(tok (s.drop p)).2=0)(hJ:lx s 0=a6P l (lx (s.drop p) p)):lx s 0=.error p:=by rw[W5 h]at hn hJ;rw[lx_bad hc hn]at hJ;exact hJ
theorem c3b{s:B}{p:Nat}{c:UInt8}{l:List Tok}(h:s[p]?=some c)(hc:c≠32)(hn:(tok (s.drop p)).2≠0)(hJ:lx s 0=a6P l (lx (s.drop p) p)) :
 lx s 0=a6P (l++[{ (tok (s.drop p)).1 with at_:=p }]) (lx (s.drop (p+(tok (s.drop p)).2)) (p+(tok (s.drop p)).2)):=by
 have e:=W5 h;rw[e]at hn hJ⊢;rw[lx_tok hc hn,c2L,<-e,List.drop_drop]at hJ;rw[e]at hJ;exact hJ
theorem b7U(c:UInt8):((c.toNat:Int)==32)=(c==32):=by simpa using a0Q (p:=λc=>((c.toNat:Int)==32)==(c==32)) (by decide +kernel) c
end
section
open Go.Ty
def a0o(u:Nat):Nat->B
 |0=>[]
 |i+1=>H7.getD (u/16^i%16) 0::a0o u i
theorem a4r(u:Nat):∀i,(a0o u i).length=i
 |0=>rfl
 |i+1=>by show(a0o u i).length+1=_;rw[a4r u i]
def X2(v:Int)(hex:Bool):B:=if hex then 35::a0o (IntKind.u32.wrap v).toNat 8 else Lib.itoa v
def c8C:B:=[13,10,9,39,42]
def b3B:B:=[99,110,116,39,42]
def shI(v:Nat):Int:=Lib.indexByte c8C (UInt8.ofNat v)
def a3H(v:Nat):B:=
 if decide (shI v>=0)then[42,b3B.getD (shI v).toNat 0]
 else if decide ((v:Int)<32)||decide ((v:Int)>126)then[42,35,H7.getD (v/16) 0,H7.getD (v%16) 0]
 else[UInt8.ofNat v]
def Y2(t:Tok):B:=if t.kind==3 then X2 t.n (decide (t.n<0))else if t.kind==4 then[39]++a3H t.n.toNat++[39]else t.text
def a5m(t:Tok)(s:B):Bool:=(t.kind==5)&&Lib.contains s t.text
def b3V:B:=[44,59,58,41,93]
def b2h:B:=[40,91]
def gap(p t:Tok):Bool:=!a5m t b3V&&!a5m p b2h&&((p.kind !=1)||!a5m t b2h)
def a7L:Option Tok->Tok->Bool
 |none,_=>false
 |some p,t=>gap p t
def sep(b:Bool):B:=if b then[32]else[]
def textL:Option Tok->List Tok->B
 |_,[]=>[]
 |p,t::l=>sep (a7L p t)++Y2 t++textL (some t) l
def a3y(p:Option Tok):List Tok->Option Tok
 | []=>p
 |t::l=>a3y (some t) l
theorem a7C:∀(l m:List Tok)(p:Option Tok),textL p (l++m)=textL p l++textL (a3y p l) m
 | [],m,p=>rfl
 |t::l,m,p=>by
  show sep (a7L p t)++Y2 t++textL (some t) (l++m)=sep (a7L p t)++Y2 t++textL (some t) l++textL (a3y (some t) l) m;rw[a7C l m (some t)];simp
theorem a9I:∀(l:List Tok)(i:Nat)(p:Option Tok)(t:Tok),l[i]?=some t->a3y p (l.take (i+1))=some t
 | [],i,p,t,h=>by cases i<;>cases h
 |x::l,0,p,t,h=>by cases h;cases l<;>rfl
 |x::l,i+1,p,t,h=>by
  show a3y (some x) (l.take (i+1))=some t;exact a9I l i (some x) t (by simpa using h)
theorem b06{l:List Tok}{i:Nat}{t:Tok}(p:Option Tok)(h:l[i]?=some t):textL p (l.take (i+1))=textL p (l.take i)++(sep (a7L (a3y p (l.take i)) t)++Y2 t):=by
 have h1:i<l.length:=(List.getElem?_eq_some_iff.1 h).1;have e:l.take (i+1)=l.take i++[t]:=by rw[List.take_add_one,h];rfl
 rw[e,a7C];show textL p (l.take i)++(sep _++Y2 t++[])=_;simp
def textO(l:List Tok):B×Int:=
 if l.any λt=>!J7 t then([],2)else if decide (((textL none l).length:Int)>256)then([],3)else(textL none l,0)
theorem b1Q{l:List Tok}(h:l.any (λt=>!J7 t)=true):textO l=([],2):=by unfold textO;rw[h];rfl
theorem a9p{l:List Tok}(h:l.any (λt=>!J7 t)=false){i:Nat}(hi:256<(textL none (l.take i)).length):textO l=([],3):=by
 unfold textO;rw[h];have:decide (((textL none l).length:Int)>256)=true:=by
  have e:textL none l=textL none (l.take i)++textL (a3y none (l.take i)) (l.drop i):=by rw[<-a7C,List.take_append_drop]
  rw[e,List.length_append];simp;omega
 rw[this];rfl
theorem b5o{l:List Tok}(h:l.any (λt=>!J7 t)=false)(hl:(textL none l).length<=256):textO l=(textL none l,0):=by
 unfold textO;rw[h];have:decide (((textL none l).length:Int)>256)=false:=by simp;omega
 rw[this];rfl
theorem a7M(v:Nat):(a3H v).length<=4:=by
 unfold a3H;split
 ·simp
 ·split<;>simp
theorem b3m:∀(n u:Nat),u<=n->(Lib.decDigits u).length<=u+1
 |n,u,h=>by
  unfold Lib.decDigits;split
  ·simp
  ·rename_i h10
   cases n with
   |zero=>omega
   |succ n=>have:=b3m n (u/10) (by omega);rw[List.length_append,List.length_singleton];omega
theorem b9p{v:Int}(b:Bool)(h:-2147483648<=v/\v<=2147483647):(X2 v b).length<=3000000000:=by
 unfold X2;split
 ·rw[List.length_cons,a4r];omega
 ·unfold Lib.itoa
  split
  ·have:=b3m _ v.natAbs (Nat.le_refl _);rw[List.length_cons];omega
  ·have:=b3m _ v.toNat (Nat.le_refl _);omega
theorem b1l{t:Tok}(h:-2147483648<=t.n/\t.n<=2147483647)(hs:t.text.length<=140737488355328):(Y2 t).length<=140737488355328:=by
 unfold Y2;split
 ·have:=b9p (decide (t.n<0)) h;omega
 ·split
  ·have:=a7M t.n.toNat
   simp only[List.length_append,List.length_singleton];omega
  ·exact hs
theorem b0b(u:Nat)(i:Nat):a0o u (i+1)=H7.getD (u/16^i%16) 0::a0o u i:=rfl
end
end Go.Lx
section
namespace Go.Lx
open Go.Ty
set_option maxRecDepth 100000
def c9m(t:Tok)(n:Nat)(c:UInt8):Bool:=
 if t.kind==4 then true else if t.kind==5 then(n==2)||!sym (t.text++[c])else !wch c
def stop(t:Tok)(n:Nat)(y:B):Prop:=∀c,y[n]?=some c->c9m t n c=true
theorem b7D{x:B}{t:Tok}{n:Nat}(h:a4F x=(t,n))(hn:n≠0):run x=n/\(t.kind=1\/t.kind=2)/\t.text=x.take n/\t.n=0/\t.at_=0:=by
 unfold a4F at h;split at h
 ·cases h;exact⟨rfl,.inr rfl,rfl,rfl,rfl⟩
 ·split at h
  ·cases h;exact absurd rfl hn
  ·cases h;exact⟨rfl,.inl rfl,rfl,rfl,rfl⟩
theorem c0I{x:B}{t:Tok}{n:Nat}(h:b0U x=(t,n))(hn:n≠0):run x=n/\t.kind=3/\t.text=[]/\t.at_=0:=by
 unfold b0U at h;split at h
 ·cases h;exact absurd rfl hn
 ·split at h
  ·cases h;exact absurd rfl hn
  ·split at h
   ·cases h;exact absurd rfl hn
   ·cases h;exact⟨rfl,rfl,rfl,rfl⟩
theorem c0B{x:B}{t:Tok}{n:Nat}(h:b3I x=(t,n))(hn:n≠0):1+run (x.drop 1)=n/\t.kind=3/\t.text=[]/\t.at_=0:=by
 unfold b3I at h;split at h
 ·cases h;exact absurd rfl hn
 ·split at h
  ·cases h;exact absurd rfl hn
  ·cases h;exact⟨rfl,rfl,rfl,rfl⟩
theorem b9h{x:B}{t:Tok}{n:Nat}(h:a1e x=(t,n))(hn:n≠0):noQ (x.drop 1) (O3 (x.drop 1)).2=false/\t=⟨4,0,[],(O3 (x.drop 1)).1⟩/\n=(O3 (x.drop 1)).2+2:=by
 unfold a1e at h;split at h
 ·cases h;exact absurd rfl hn
 ·rename_i hq;cases h;exact⟨by simpa using hq,rfl,rfl⟩
theorem b9V{x:B}{t:Tok}{n:Nat}(h:a8j x=(t,n))(hn:n≠0):t=⟨5,0,x.take n,0⟩/\sym (x.take n)=true/\n<=x.length/\(n=2\/n=1/\(2<=x.length->sym (x.take 2)=false)):=by
 unfold a8j at h;split at h
 ·rename_i hc
  simp only[Bool.and_eq_true,decide_eq_true_eq]at hc;cases h;exact⟨rfl,hc.2,hc.1,.inl rfl⟩
 ·rename_i h2
  split at h
  ·rename_i hc
   simp only[Bool.and_eq_true,decide_eq_true_eq]at hc;cases h;refine⟨rfl,hc.2,hc.1,.inr ⟨rfl,λhl=>?_⟩⟩;cases hb:sym (x.take 2)with
   |false=>rfl
   |true=>exact absurd (by rw[hb];simpa using hl) h2
  ·cases h;exact absurd rfl hn
end Go.Lx
namespace Go.Lx
open Go.Ty
set_option maxRecDepth 100000
theorem b5y{P:B->Prop}(h0:P [])(h1:∀r,P r->P (32::r))(h2:∀c r,c≠32->(tok (c::r)).2=0->P (c::r))
 (h3:∀c r,c≠32->(tok (c::r)).2≠0->P ((c::r).drop (tok (c::r)).2)->P (c::r)):∀r,P r:=by
 have key:∀n,∀r:B,r.length<=n->P r:=by
  intro n;induction n with
  |zero=>intro r hr;cases r with
   |nil=>exact h0
   |cons c r=>simp at hr
  |succ n ih=>
   intro r hr;cases r with
   |nil=>exact h0
   |cons c r=>
    by_cases hc:c=32
    ·subst hc;exact h1 r (ih r (by simpa using hr))
    ·by_cases hn:(tok (c::r)).2=0
     ·exact h2 c r hc hn
     ·exact h3 c r hc hn (ih _ (by rw[List.length_drop];simp only[List.length_cons]at hr⊢;omega))
 exact λr=>key r.length r (Nat.le_refl _)
theorem b7W{l:List Tok}{x:Except Nat (List Tok)}{m:List Tok}(h:a6P l x=.ok m):∃k,x=.ok k/\m=l++k:=by
 cases x with
 |error e=>cases h
 |ok k=>cases h;exact⟨k,rfl,rfl⟩
end Go.Lx
namespace Go.Lx
open Go.Ty
set_option maxRecDepth 100000
theorem b1p{t:Tok}(h:J7 t=true):(t.kind=1/\t.n=0/\name t.text=true)\/(t.kind=2/\t.n=0/\key t.text=true)\/(t.kind=5/\t.n=0/\sym t.text=true)\/(t.kind=4/\t.text=[]/\0<=t.n/\t.n<256)\/(t.kind=3/\t.text=[]):=by
 unfold J7 at h;split at h
 ·cases h
 ·split at h
  ·rename_i hk;simp at h hk;exact .inl ⟨hk,h.1,h.2⟩
  ·split at h
   ·rename_i hk;simp at h hk;exact .inr (.inl ⟨hk,h.1,h.2⟩)
   ·split at h
    ·rename_i hk;simp at h hk;exact .inr (.inr (.inl ⟨hk,h.1,h.2⟩))
    ·split at h
     ·rename_i hk;simp at h hk;exact .inr (.inr (.inr (.inl ⟨hk,h.1.1,h.1.2,h.2⟩)))
     ·simp at h;exact .inr (.inr (.inr (.inr h)))
theorem c1Z(n:Int):0<=IntKind.u32.wrap n/\IntKind.u32.wrap n<4294967296:=by unfold IntKind.wrap;simp[IntKind.bits,IntKind.signed];omega
end Go.Lx
namespace Go.Lx
open Go.Ty
set_option maxRecDepth 100000
def c9j:Option Tok->Nat->List Tok->List Tok
 |_,_,[]=>[]
 |p,q,t::l=>{ t with at_:=(q+(sep (a7L p t)).length:Nat) }::c9j (some t) (q+(sep (a7L p t)).length+(Y2 t).length) l
theorem a9n(v:Int):-2147483648<=IntKind.i32.wrap v/\IntKind.i32.wrap v<=2147483647:=by unfold IntKind.wrap;simp[IntKind.bits,IntKind.signed];omega
theorem c6X(c:UInt8):chB a2X (esc c).toNat<256/\0<=chB a2X (esc c).toNat:=by unfold chB;have:=(a2X.getD (esc c).toNat 0).toNat_lt;omega
theorem b9E(s:B):0<=(O3 s).1/\(O3 s).1<256:=by
 unfold O3;split
 ·exact⟨Int.le_refl 0,show(0:Int)<256 by decide⟩
 ·split
  ·have:=(s.getD 0 0).toNat_lt
   show 0<=chB s 0/\chB s 0<256;unfold chB;omega
  ·split
   ·exact⟨Int.le_refl 0,show(0:Int)<256 by decide⟩
   ·split
    ·have:=c6X (s.getD 1 0)
     exact⟨this.2,this.1⟩
    ·split
     ·exact⟨Int.le_refl 0,show(0:Int)<256 by decide⟩
     ·split
      ·exact⟨Int.le_refl 0,show(0:Int)<256 by decide⟩
      ·show 0<=(a1t _).1/\(a1t _).1<256
       unfold a1t;rw[a5p];cases hv:a8E 16 ((s.drop 2).take 2) 0 with
       |none=>exact⟨Int.le_refl 0,show(0:Int)<256 by decide⟩
       |some v=>
        have hb:=a3a (by decide) a5F _ 0 v (by decide) hv;have hl:((s.drop 2).take 2).length<=2:=by rw[List.length_take];omega
        have hp:(16:Int)^((s.drop 2).take 2).length<=16^2:=by exact_mod_cast Nat.pow_le_pow_right (by decide) hl
        simp only;omega
theorem c6f{c:UInt8}{r:B}{t:Tok}{n:Nat}(h:tok (c::r)=(t,n))(hn:n≠0){z:Int}(hz:0<=z/\z<256):J7 { t with at_:=z }=true/\(-2147483648<=t.n/\t.n<=2147483647):=by
 have h0:(decide (z<0)||decide (z>=256))=false:=by simp;omega
 unfold tok at h;rw[a4k]at h;split at h
 ·rename_i hl
  obtain⟨hr,_⟩:=b7D h hn;unfold a4F at h;split at h
  ·rename_i hk
   cases h;refine⟨?_,by show(-2147483648:Int)<=0/\(0:Int)<=2147483647;omega⟩;unfold J7;simp only[h0,hk];rfl
  ·rename_i hk
   split at h
   ·cases h;exact absurd rfl hn
   ·rename_i h32
    cases h;refine⟨?_,by show(-2147483648:Int)<=0/\(0:Int)<=2147483647;omega⟩;unfold J7;simp only[h0,b9r hl (by simpa using hk)];simpa using h32
 ·split at h
  ·obtain⟨_,hk,htx,_⟩:=c0I h hn
   refine⟨?_,?_⟩
   ·unfold J7
    simp only[h0,hk,htx];rfl
   ·unfold b0U at h
    split at h
    ·cases h;exact absurd rfl hn
    ·split at h
     ·cases h;exact absurd rfl hn
     ·split at h
      ·cases h;exact absurd rfl hn
      ·cases h;exact a9n _
  ·split at h
   ·obtain⟨_,hk,htx,_⟩:=c0B h hn
    refine⟨?_,?_⟩
    ·unfold J7
     simp only[h0,hk,htx];rfl
    ·unfold b3I at h
     split at h
     ·cases h;exact absurd rfl hn
     ·split at h
      ·cases h;exact absurd rfl hn
      ·cases h;exact a9n _
   ·split at h
    ·obtain⟨_,htk,_⟩:=b9h h hn
     have hv:=b9E r;subst htk;refine⟨?_,by show -2147483648<=(O3 r).1/\(O3 r).1<=2147483647;omega⟩;unfold J7;simp only[h0];simp;omega
    ·obtain⟨htk,hsy,_,_⟩:=b9V h hn
     subst htk;refine⟨?_,by show(-2147483648:Int)<=0/\(0:Int)<=2147483647;omega⟩;unfold J7;simp only[h0,hsy];rfl
theorem c6h:∀s∈a9t,s.length<=32:=by decide +kernel
theorem c5N:∀s∈a5D,s.length<=32:=by decide +kernel
theorem may_len{t:Tok}(h:J7 t=true):t.text.length<=32:=by
 rcases b1p h with⟨_,_,h3⟩|⟨_,_,h3⟩|⟨_,_,h3⟩|⟨_,h3,_⟩|⟨_,h3⟩
 ·unfold name at h3
  simp only[Bool.and_eq_true,decide_eq_true_eq]at h3;have:=h3.1.1.1.2;omega
 ·exact c6h _ ((a1G _ _).1 (by rw[key_eq]at h3;exact h3))
 ·exact c5N _ ((a1G _ _).1 (by rw[b6c]at h3;exact h3))
 ·rw[h3];exact Nat.zero_le _
 ·rw[h3];exact Nat.zero_le _
theorem lx_may:∀(r:B)(p:Nat)(l:List Tok),lx r p=.ok l->p+r.length<=256->∀x,x∈l->J7 x=true/\(-2147483648<=x.n/\x.n<=2147483647):=by
 refine b5y ?_ ?_ ?_ ?_
 ·intro p l h _ x hx;cases h;cases hx
 ·intro r ih p l h hp x hx
  rw[a9B]at h;exact ih _ _ h (by simp only[List.length_cons]at hp;omega) x hx
 ·intro c r hc hn p l h
  rw[lx_bad hc hn]at h;cases h
 ·intro c r hc hn ih p l h hp x hx
  rw[lx_tok hc hn]at h;obtain⟨k,hk,rfl⟩:=b7W h;have hle:=b7e (c::r);rcases List.mem_append.1 hx with hx|hx
  ·cases List.mem_singleton.1 hx
   exact c6f (show tok (c::r)=((tok (c::r)).1,(tok (c::r)).2) from rfl) hn (z:=(p:Int)) (by simp only[List.length_cons]at hp;omega)
  ·exact ih _ _ hk (by rw[List.length_drop];omega) x hx
end Go.Lx
namespace Go.Lx
open Go.Ty
set_option maxRecDepth 100000
theorem lx_len:∀(r:B)(p:Nat)(l:List Tok),lx r p=.ok l->l.length<=r.length:=by
 refine b5y ?_ ?_ ?_ ?_
 ·intro p l h;cases h;exact Nat.le_refl _
 ·intro r ih p l h
  rw[a9B]at h;have:=ih _ _ h;simp only[List.length_cons];omega
 ·intro c r hc hn p l h
  rw[lx_bad hc hn]at h;cases h
 ·intro c r hc hn ih p l h
  rw[lx_tok hc hn]at h;obtain⟨k,hk,rfl⟩:=b7W h;have:=ih _ _ hk;have hle:=b7e (c::r);rw[List.length_drop]at this;simp only[List.length_append,List.length_singleton];omega
theorem lexO_ok{s:B}{l:List Tok}{z:Int}(h:lexO s=(l,z,0)):s.length<=256/\lx s 0=.ok l/\z=0:=by
 cases hd:decide ((s.length:Int)>256)with
 |true=>rw[a6d hd]at h;cases h
 |false=>
  rw[a6u hd]at h;cases hx:lx s 0 with
  |error e=>rw[hx]at h;cases h
  |ok m=>rw[hx]at h;cases h;have:=of_decide_eq_false hd;exact⟨by omega,rfl,rfl⟩
theorem lexO_no{s:B}{l:List Tok}{z e:Int}(h:lexO s=(l,z,e))(he:e≠0):l=[]:=by
 cases hd:decide ((s.length:Int)>256)with
 |true=>rw[a6d hd]at h;cases h;rfl
 |false=>
  rw[a6u hd]at h;cases hx:lx s 0 with
  |error e=>rw[hx]at h;cases h;rfl
  |ok m=>rw[hx]at h;cases h;exact absurd rfl he
end Go.Lx
end
namespace Go.Xp
section
open Go.Eng Go
open Go.Ty (Tok A3)
open Go.Lx (J7)
set_option maxRecDepth 100000
def a9X(ts:List Tok):Prop:=D9 ts≠B9 [91]
def b3N(ts:List Tok):Prop:=opF (D9 ts) 22 1=0
theorem J2{t:Tok}{r:List Tok}(h:J7 t=true)(ha:t.at_=0):D9 (t::r)=t:=by rw[a5V,if_pos h];cases t;cases ha;rfl
theorem Q0{ins:B->B->List Tok->a1A}{ts:List Tok}{t:Tok}(h:D9 ts=t):V1 ins ts=if t.kind=3 then .ok (sx 1 0 0 t.n [] [],ts.tail)else if t.kind=4 then .ok (sx 2 0 0 t.n [] [],ts.tail)
 else if t=D7 [70,65,76,83,69]then .ok (sx 3 0 0 0 [] [],ts.tail)else if t=D7 [84,82,85,69]then .ok (sx 3 0 0 1 [] [],ts.tail)
 else if t.kind=1 then(if D9 ts.tail=B9 [91]then(match ins [91] [93] ts.tail with
  | .ok (x,r)=>.ok (sx 5 0 0 0 t.text [x],r)
  | .error e=>.error e)else .ok (sx 4 0 0 0 t.text [],ts.tail))
 else if t=B9 [40]then ins [40] [41] ts else .error 100:=by subst h;rfl
theorem a0w{ins:B->B->List Tok->a1A}{ts:List Tok}{t:Tok}(h:D9 ts=t):a2b ins ts=if t=D7 [83,73,90,69]then(if(D9 ts.tail).kind=1 then .ok (sx 9 0 0 0 (D9 ts.tail).text [],ts.tail.tail)else .error 100)
 else if a1r t≠0 then unQ (λx=>sx 8 0 (a1r t) 0 [] [x]) (V1 ins ts.tail)
 else if opF t 4 23≠0 then unQ (λx=>sx 6 (opF t 4 23) 0 0 [] [x]) (V1 ins ts.tail)
 else match V1 ins ts with
  | .error e=>.error e
  | .ok (a,r)=>if opF (D9 r) 22 1≠0 then unQ (λb=>sx 7 (opF (D9 r) 22 1) 0 0 [] [a,b]) (V1 ins r.tail)else .ok (a,r):=by subst h;rfl
inductive Dp:Nat->Ex->Prop
 |mk {n:Nat} {e:Ex} (h:∀x∈e.l,Dp n x):Dp (n+1) e
theorem Dp.part{n:Nat}{e x:Ex}(d:Dp (n+1) e)(hx:x∈e.l):Dp n x:=by cases d with|mk h=>exact h x hx
theorem Dp.pos{n:Nat}{e:Ex}(d:Dp n e):∃k,n=k+1:=by cases d;exact⟨_,rfl⟩
theorem Dp.up{e:Ex}:∀{n:Nat},Dp n e->Dp (n+1) e:=by refine Ex.ind (p:=λe=>∀{n:Nat},Dp n e->Dp (n+1) e) (λe ih n d=>?_) e;obtain⟨k,rfl⟩:=d.pos;exact .mk λx hx=>ih x hx (d.part hx)
def c0V(t:Tok):Prop:=t.kind=1\/t.kind=3\/t.kind=4\/t=D7 [70,65,76,83,69]\/t=D7 [84,82,85,69]\/t=B9 [40]
theorem c2e{t:Tok}(h:c0V t):t≠D7 [83,73,90,69]/\a1r t=0/\opF t 4 23=0:=by
 have key:t.kind=1\/t.kind=3\/t.kind=4->t≠D7 [83,73,90,69]/\a1r t=0/\opF t 4 23=0:=by
  intro hk;have hm:∀s,t≠D7 s:=by rintro s rfl;have:=a0d s;omega
  have ho:∀o,t≠G2 o:=λo=>hm _
  refine⟨hm _,?_,?_⟩
  ·unfold a1r
   rw[if_neg (hm _),if_neg (hm _),if_neg (hm _)]
  ·simp only[opF,if_neg (ho _)]
 rcases h with h|h|h|rfl|rfl|rfl
 ·exact key (.inl h)
 ·exact key (.inr (.inl h))
 ·exact key (.inr (.inr h))
 ·decide +kernel
 ·decide +kernel
 ·decide +kernel
theorem b3i(n:Int):J7 (a6D n)=true:=rfl
theorem a9h{n:Int}(h:0<=n/\n<=255):J7 (a2o n)=true:=by unfold J7 a2o;simp;omega
theorem a3U{s:B}(h:Go.Lx.name s=true):J7 (C9 s)=true:=by unfold J7 C9;simp[h]
theorem c1R:∀o,o<27->1<=o->J7 (G2 (o:Nat))=true:=by decide +kernel
theorem a6e{o:Int}(h:1<=o/\o<=26):J7 (G2 o)=true:=by have:=c1R o.toNat (by omega) (by omega);rwa [show((o.toNat:Nat):Int)=o by omega]at this
theorem b8j(o:Int):(G2 o).at_=0:=a4E _
theorem c7l:∀o,o<27->23<=o->(G2 (o:Nat)≠D7 [83,73,90,69])/\a1r (G2 (o:Nat))=0/\opF (G2 (o:Nat)) 4 23=o:=by decide +kernel
theorem c7Q:∀o,o<23->1<=o->opF (G2 (o:Nat)) 22 1=o/\G2 (o:Nat)≠B9 [91]:=by decide +kernel
theorem b8n:∀k,k<4->1<=k->J7 (D7 (N0 (k:Nat)))=true/\D7 (N0 (k:Nat))≠D7 [83,73,90,69]/\a1r (D7 (N0 (k:Nat)))=k:=by decide +kernel
theorem b4e{s:B}{r:List Tok}(h:J7 (B9 s)=true)(hs:s≠[91]):a9X (B9 s::r):=by unfold a9X;rw[J2 h rfl];intro q;exact hs (congrArg Tok.text q)
theorem c4b(r:List Tok):b3N (B9 [93]::r):=by unfold b3N;rw[J2 (by decide +kernel) rfl];decide +kernel
theorem c4U(r:List Tok):b3N (B9 [41]::r):=by unfold b3N;rw[J2 (by decide +kernel) rfl];decide +kernel
theorem c3D{f:Nat}{o s:B}{ts r:List Tok}{x:Ex}(ho:J7 (B9 o)=true)(hs:J7 (B9 s)=true)(h:a2b (a04 f) ts=.ok (x,B9 s::r)):a04 (f+1) o s (B9 o::ts)=.ok (x,r):=by unfold a04;rw[J2 ho rfl,if_pos rfl];show(match a2b (a04 f) ts with|.error e=>.error e|.ok (x,r)=>if D9 r=B9 s then .ok (x,r.tail)else .error 100:a1A)=_;rw[h];show(if D9 (B9 s::r)=B9 s then .ok (x,(B9 s::r).tail)else .error 100:a1A)=_;rw[J2 hs rfl,if_pos rfl];rfl
section
variable {e:Ex}(hF:Fine e)
include hF
theorem a7F(hn:-2147483648<=e.n/\e.n<=2147483647)(h:e.k=2):0<=e.n/\e.n<=255:=by
 have h1:=hF.ok;unfold D5 at h1;simp only[h]at h1;by_cases hb:a6j .i32 e.n 8=0
 ·exact(c9k hn).1 hb
 ·simp[hb]at h1
theorem a2B(h:e.k=4\/e.k=5\/e.k=9):Go.Lx.name e.s=true:=by
 have h1:=hF.ok;unfold D5 at h1;cases hb:Go.Lx.name e.s with
 |true=>rfl
 |false=>rcases h with h|h|h<;>simp[h,hb]at h1
theorem b5G(ho:0<=e.o/\e.o<=255)(h:e.k=6):23<=e.o/\e.o<=26:=by
 have h1:=hF.ok;unfold D5 at h1;simp only[h]at h1;by_cases h2:e.o<23
 ·simp[h2]at h1
 ·have h3:=b5N (o:=e.o) (by omega)
  rw[h3]at h1;by_cases h4:e.o-23>=4
  ·simp[h2,h4]at h1
  ·omega
theorem b5l(h:e.k=7):1<=e.o/\e.o<=22:=by
 have h1:=hF.ok;unfold D5 at h1;simp only[h]at h1;by_cases h2:e.o<1
 ·simp[h2]at h1
 ·by_cases h4:e.o>22
  ·simp[h2,h4]at h1
  ·omega
theorem b1h(h:e.k=8):1<=e.t/\e.t<=3:=by
 have h1:=hF.ok;unfold D5 at h1;simp only[h]at h1;by_cases h2:e.t=1
 ·omega
 by_cases h3:e.t=2
 ·omega
 by_cases h4:e.t=3
 ·omega
 simp[N0,h2,h3,h4]at h1
theorem b8Q(h:e.k=1\/e.k=2\/e.k=3\/e.k=4\/e.k=9):e.l=[]:=by
 have h1:=hF.ok;have h2:=hF.num;have:(D5 e).1=0:=by unfold D5 at h1⊢;rcases h with h|h|h|h|h<;>simp only[h]at h1⊢ <;> (revert h1;simp)<;>split<;>simp
 rw[this]at h2;match hl:e.l with
 | []=>rfl
 |_::_=>rw[hl]at h2;simp at h2;omega
end
theorem b6F{e:Ex}(hF:Fine e):C6 e=(if e.k=1 then sx 1 0 0 e.n [] []else if e.k=2 then sx 2 0 0 e.n [] []else if e.k=3 then sx 3 0 0 e.n [] []else if e.k=4 then sx 4 0 0 0 e.s []
 else if e.k=9 then sx 9 0 0 0 e.s []else if e.k=5 then sx 5 0 0 0 e.s (e.l.map C6)else if e.k=6 then sx 6 e.o 0 0 [] (e.l.map C6)else if e.k=7 then sx 7 e.o 0 0 [] (e.l.map C6)else sx 8 0 e.t 0 [] (e.l.map C6)):=by
 have h1:=hF.ok;have hl:=b8Q hF;rw[a0p];unfold D5 at h1;rcases a0W hF with h|h|h|h|h|h|h|h|h
 ·simp only[h]at h1⊢
  rw[hl (by omega)];simp[fin]at h1;simp[sx,h1]
 ·simp only[h]at h1⊢
  rw[hl (by omega)];revert h1
  simp only[show ¬((2:Int)=1) by decide,if_false,if_true];split
  ·intro h1;cases h1
  ·intro h1
   simp[fin]at h1;simp[sx,h1]
 ·simp only[h]at h1⊢
  rw[hl (by omega)];revert h1
  simp only[show ¬((3:Int)=1) by decide,show ¬((3:Int)=2) by decide,if_false,if_true];split
  ·intro h1;cases h1
  ·intro h1
   simp[fin]at h1;simp[sx,h1]
 ·simp only[h]at h1⊢
  rw[hl (by omega)];revert h1
  cases Go.Lx.name e.s
  ·simp
  ·intro h1
   simp[fin]at h1;simp[sx,h1]
 ·simp only[h]at h1⊢
  rw[hl (by omega)];revert h1
  cases Go.Lx.name e.s
  ·simp
  ·intro h1
   simp[fin]at h1;simp[sx,h1]
 ·simp only[h]at h1⊢
  revert h1
  cases Go.Lx.name e.s
  ·simp
  ·intro h1
   simp[fin]at h1;simp[sx,h1]
 ·simp only[h]at h1⊢
  revert h1
  simp only[show ¬((6:Int)=1) by decide,show ¬((6:Int)=2) by decide,show ¬((6:Int)=3) by decide,show ¬((6:Int)=4) by decide,show ¬((6:Int)=9) by decide,show ¬((6:Int)=5) by decide,if_false,if_true];split
  ·intro h1;cases h1
  ·intro h1
   simp[fin]at h1;simp[sx,h1]
 ·simp only[h]at h1⊢
  revert h1
  simp only[show ¬((7:Int)=1) by decide,show ¬((7:Int)=2) by decide,show ¬((7:Int)=3) by decide,show ¬((7:Int)=4) by decide,show ¬((7:Int)=9) by decide,show ¬((7:Int)=5) by decide,show ¬((7:Int)=6) by decide,if_false,if_true];split
  ·intro h1;cases h1
  ·intro h1
   simp[fin]at h1;simp[sx,h1]
 ·simp only[h]at h1⊢
  revert h1
  simp only[show ¬((8:Int)=1) by decide,show ¬((8:Int)=2) by decide,show ¬((8:Int)=3) by decide,show ¬((8:Int)=4) by decide,show ¬((8:Int)=9) by decide,show ¬((8:Int)=5) by decide,show ¬((8:Int)=6) by decide,show ¬((8:Int)=7) by decide,if_false,if_true];split
  ·intro h1;cases h1
  ·intro h1
   simp[fin]at h1;simp[sx,h1]
theorem a9K{e:Ex}(hF:Fine e)(hn:-2147483648<=e.n/\e.n<=2147483647)(rest:List Tok):c0V (D9 (B7 e++rest)):=by
 rcases a0W hF with h|h|h|h|h|h|h|h|h
 ·rw[show B7 e++rest=a6D e.n::rest by unfold B7 N4 par;rw[G1];simp[wr,h],J2 (b3i _) rfl]
  exact .inr (.inl rfl)
 ·rw[show B7 e++rest=a2o e.n::rest by unfold B7 N4 par;rw[G1];simp[wr,h],J2 (a9h (a7F hF hn h)) rfl]
  exact .inr (.inr (.inl rfl))
 ·rcases a6f hn hF h with h0|h0
  ·rw[show B7 e++rest=D7 [70,65,76,83,69]::rest by unfold B7 N4 par;rw[G1];simp[wr,h,h0],J2 (by decide +kernel) (a4E _)]
   exact .inr (.inr (.inr (.inl rfl)))
  ·rw[show B7 e++rest=D7 [84,82,85,69]::rest by unfold B7 N4 par;rw[G1];simp[wr,h,h0],J2 (by decide +kernel) (a4E _)]
   exact .inr (.inr (.inr (.inr (.inl rfl))))
 ·rw[show B7 e++rest=C9 e.s::rest by unfold B7 N4 par;rw[G1];simp[wr,h],J2 (a3U (a2B hF (.inl h))) rfl]
  exact .inl rfl
 ·rw[show B7 e++rest=B9 [40]::((A8 e++[B9 [41]])++rest) by unfold B7 N4 par;simp[h],J2 (by decide +kernel) rfl]
  exact .inr (.inr (.inr (.inr (.inr rfl))))
 ·obtain⟨x,hx⟩:=R0 hF (.inl h)
  rw[show B7 e++rest=C9 e.s::(B9 [91]::(A8 x++[B9 [93]])++rest) by unfold B7 N4 par;rw[G1];simp[wr,h,hx,P3],J2 (a3U (a2B hF (.inr (.inl h)))) rfl];exact .inl rfl
 ·rw[show B7 e++rest=B9 [40]::((A8 e++[B9 [41]])++rest) by unfold B7 N4 par;simp[h],J2 (by decide +kernel) rfl]
  exact .inr (.inr (.inr (.inr (.inr rfl))))
 ·rw[show B7 e++rest=B9 [40]::((A8 e++[B9 [41]])++rest) by unfold B7 N4 par;simp[h],J2 (by decide +kernel) rfl]
  exact .inr (.inr (.inr (.inr (.inr rfl))))
 ·rw[show B7 e++rest=B9 [40]::((A8 e++[B9 [41]])++rest) by unfold B7 N4 par;simp[h],J2 (by decide +kernel) rfl]
  exact .inr (.inr (.inr (.inr (.inr rfl))))
abbrev RdE(e:Ex):Prop:=∀f,Dp (f+1) e->∀rest,a9X rest->b3N rest->a2b (a04 f) (A8 e++rest)=.ok (C6 e,rest)
abbrev RdO(e:Ex):Prop:=∀f,Dp (f+1) e->(par e.k=true->Dp f e)->∀rest,a9X rest->V1 (a04 f) (B7 e++rest)=.ok (C6 e,rest)
theorem b0q{f:Nat}{ts r:List Tok}{x:Ex}(hs:c0V (D9 ts))(ho:V1 (a04 f) ts=.ok (x,r)):a2b (a04 f) ts=if opF (D9 r) 22 1≠0 then unQ (λb=>sx 7 (opF (D9 r) 22 1) 0 0 [] [x,b]) (V1 (a04 f) r.tail)else .ok (x,r):=by obtain⟨h1,h2,h3⟩:=c2e hs;unfold a2b;simp only[if_neg h1,h2,h3,ho,ne_eq,not_true,if_false]
theorem c7M{f:Nat}{ts r:List Tok}{x:Ex}(h:a04 f [40] [41] (B9 [40]::ts)=.ok (x,r)):V1 (a04 f) (B9 [40]::ts)=.ok (x,r):=by rw[Q0 (J2 (by decide +kernel) rfl),if_neg (by decide),if_neg (by decide),if_neg (by decide +kernel),if_neg (by decide +kernel),if_neg (by decide),if_pos rfl];exact h
theorem c3I{e:Ex}(h:par e.k=true)(hE:RdE e):RdO e:=by intro f hd hp rest hb;obtain⟨k,rfl⟩:=(hp h).pos;have he:=hE k (hp h) (B9 [41]::rest) (b4e (by decide +kernel) (by decide)) (c4U rest);rw[show B7 e++rest=B9 [40]::(A8 e++B9 [41]::rest) by unfold B7 N4;rw[h];simp];exact c7M (c3D (by decide +kernel) (by decide +kernel) he)
theorem c3j{e:Ex}(hp:par e.k=false)(hF:Fine e)(hn:-2147483648<=e.n/\e.n<=2147483647)(hO:RdO e):RdE e:=by intro f hd rest hb ho;have h1:=hO f hd (λq=>by rw[hp]at q;cases q) rest hb;have hs:=a9K hF hn rest;rw[show A8 e=B7 e by unfold B7 N4;rw[hp];rfl,b0q hs h1,if_neg (λq=>q ho)]
theorem c8T(e:Ex):Fine e->Wf e->RdE e/\RdO e:=by
 refine Ex.ind (p:=λe=>Fine e->Wf e->RdE e/\RdO e) (λe ih hF hW=>?_) e;obtain⟨⟨hk,hor,ht⟩,hn,hs⟩:=hW.spec;have fs:=b6F hF;have lit (hp:par e.k=false) (hO:RdO e):RdE e/\RdO e:=⟨c3j hp hF hn hO,hO⟩;have brk (hp:par e.k=true) (hE:RdE e):RdE e/\RdO e:=⟨hE,c3I hp hE⟩;rcases a0W hF with h|h|h|h|h|h|h|h|h
 ·refine lit (by simp[par,h]) λf _ _ rest hb=>?_
  rw[show B7 e++rest=a6D e.n::rest by unfold B7 N4 par;rw[G1];simp[wr,h]];rw[Q0 (J2 (b3i _) rfl),if_pos (show(a6D e.n).kind=3 from rfl),fs];simp[h];rfl
 ·refine lit (by simp[par,h]) λf _ _ rest hb=>?_
  rw[show B7 e++rest=a2o e.n::rest by unfold B7 N4 par;rw[G1];simp[wr,h]];rw[Q0 (J2 (a9h (a7F hF hn h)) rfl),if_neg (by show ¬(4:Int)=3;decide),if_pos (show(a2o e.n).kind=4 from rfl),fs];simp[h];rfl
 ·refine lit (by simp[par,h]) λf _ _ rest hb=>?_
  rcases a6f hn hF h with h0|h0
  ·rw[show B7 e++rest=D7 [70,65,76,83,69]::rest by unfold B7 N4 par;rw[G1];simp[wr,h,h0]]
   rw[Q0 (J2 (by decide +kernel) (a4E _)),if_neg (by decide +kernel),if_neg (by decide +kernel),if_pos rfl,fs];simp[h,h0]
  ·rw[show B7 e++rest=D7 [84,82,85,69]::rest by unfold B7 N4 par;rw[G1];simp[wr,h,h0]]
   rw[Q0 (J2 (by decide +kernel) (a4E _)),if_neg (by decide +kernel),if_neg (by decide +kernel),if_neg (by decide +kernel),if_pos rfl,fs];simp[h,h0]
 ·refine lit (by simp[par,h]) λf _ _ rest hb=>?_
  have hnm:∀s,C9 e.s≠D7 s:=λs q=>by
   have:=a0d s;rw[<-q]at this;rcases this with h|h<;>cases h
  rw[show B7 e++rest=C9 e.s::rest by unfold B7 N4 par;rw[G1];simp[wr,h]];rw[Q0 (J2 (a3U (a2B hF (.inl h))) rfl),if_neg (by show ¬(1:Int)=3;decide),if_neg (by show ¬(1:Int)=4;decide),if_neg (hnm _),if_neg (hnm _),if_pos (show(C9 e.s).kind=1 from rfl),List.tail_cons,if_neg hb,fs];simp[h];rfl
 ·refine brk (by simp[par,h]) λf _ rest hb ho=>?_
  rw[show A8 e++rest=D7 [83,73,90,69]::C9 e.s::rest by rw[G1];simp[wr,h]];rw[a0w (J2 (by decide +kernel) (a4E _)),if_pos rfl,List.tail_cons,J2 (a3U (a2B hF (.inr (.inr h)))) rfl,if_pos (show(C9 e.s).kind=1 from rfl),fs];simp[h];rfl
 ·obtain⟨x,hx⟩:=R0 hF (.inl h)
  have hxm:x∈e.l:=by rw[hx];exact List.Mem.head _
  obtain⟨iE,_⟩:=ih x hxm (hF.part hxm) (hW.part hxm);have hnm:∀s,C9 e.s≠D7 s:=λs q=>by
   have:=a0d s;rw[<-q]at this;rcases this with h|h<;>cases h
  refine lit (by simp[par,h]) λf hd _ rest hb=>?_;obtain⟨k,rfl⟩:=(hd.part hxm).pos;have he:=iE k (hd.part hxm) (B9 [93]::rest) (b4e (by decide +kernel) (by decide)) (c4b rest);have hi:a04 (k+1) [91] [93] (B9 [91]::(A8 x++B9 [93]::rest))=.ok (C6 x,rest):=c3D (by decide +kernel) (by decide +kernel) he;rw[show B7 e++rest=C9 e.s::B9 [91]::(A8 x++B9 [93]::rest) by unfold B7 N4 par;rw[G1];simp[wr,h,hx,P3]];rw[Q0 (J2 (a3U (a2B hF (.inr (.inl h)))) rfl),if_neg (by show ¬(1:Int)=3;decide),if_neg (by show ¬(1:Int)=4;decide),if_neg (hnm _),if_neg (hnm _),if_pos (show(C9 e.s).kind=1 from rfl),List.tail_cons,J2 (by decide +kernel) rfl,if_pos rfl,hi,fs];simp[h,hx];rfl
 ·obtain⟨x,hx⟩:=R0 hF (.inr (.inl h))
  have hxm:x∈e.l:=by rw[hx];exact List.Mem.head _
  obtain⟨_,iO⟩:=ih x hxm (hF.part hxm) (hW.part hxm);have hm:=b5G hF hor h;obtain⟨o,ho⟩:∃o:Nat,e.o=o:=⟨e.o.toNat,by omega⟩;obtain⟨q1,q2,q3⟩:=c7l o (by omega) (by omega);refine brk (by simp[par,h]) λf hd rest hb _=>?_;have he:=iO f (hd.part hxm).up (λ_=>hd.part hxm) rest hb;rw[show A8 e++rest=G2 e.o::(B7 x++rest) by rw[G1];simp[wr,h,hx,P3,B7]];rw[a0w (J2 (a6e (by omega)) (b8j _)),ho];simp only[if_neg q1,q2,q3,List.tail_cons,he,ne_eq,not_true,if_false];rw[if_pos (by omega),fs];simp[h,hx,ho,unQ]
 ·obtain⟨x,y,hx⟩:=a4b hF h
  have hxm:x∈e.l:=by rw[hx];exact List.Mem.head _
  have hym:y∈e.l:=by rw[hx];exact List.Mem.tail _ (List.Mem.head _)
  obtain⟨_,iO⟩:=ih x hxm (hF.part hxm) (hW.part hxm);obtain⟨_,jO⟩:=ih y hym (hF.part hym) (hW.part hym);have hm:=b5l hF h;obtain⟨o,ho⟩:∃o:Nat,e.o=o:=⟨e.o.toNat,by omega⟩;obtain⟨q1,q2⟩:=c7Q o (by omega) (by omega);refine brk (by simp[par,h]) λf hd rest hb _=>?_;have hnx:∀r,D9 (G2 e.o::r)=G2 e.o:=λr=>J2 (a6e (by omega)) (b8j _)
  have he:=iO f (hd.part hxm).up (λ_=>hd.part hxm) (G2 e.o::(B7 y++rest)) (by unfold a9X;rw[hnx,ho];exact q2);have hf:=jO f (hd.part hym).up (λ_=>hd.part hym) rest hb;have hst:=a9K (hF.part hxm) (hW.part hxm).spec.2.1 (G2 e.o::(B7 y++rest));rw[show A8 e++rest=B7 x++(G2 e.o::(B7 y++rest)) by rw[G1];simp[wr,h,hx,P3,B7],b0q hst he,hnx,ho,q1,if_pos (by omega),List.tail_cons,hf,fs];simp[h,hx,ho,unQ]
 ·obtain⟨x,hx⟩:=R0 hF (.inr (.inr h))
  have hxm:x∈e.l:=by rw[hx];exact List.Mem.head _
  obtain⟨_,iO⟩:=ih x hxm (hF.part hxm) (hW.part hxm);have hm:=b1h hF h;obtain⟨o,ho⟩:∃o:Nat,e.t=o:=⟨e.t.toNat,by omega⟩;obtain⟨q0,q1,q2⟩:=b8n o (by omega) (by omega);refine brk (by simp[par,h]) λf hd rest hb _=>?_;have he:=iO f (hd.part hxm).up (λ_=>hd.part hxm) rest hb;rw[show A8 e++rest=D7 (N0 e.t)::(B7 x++rest) by rw[G1];simp[wr,h,hx,P3,B7]];rw[ho,a0w (J2 q0 (a4E _))];simp only[if_neg q1,q2,List.tail_cons,he,ne_eq];rw[if_pos (by omega),fs];simp[h,hx,ho,unQ]
abbrev a3A(u:Tok):Prop:=J7 u=true/\(-2147483648<=u.n/\u.n<=2147483647)
theorem z0:(-2147483648:Int)<=0/\(0:Int)<=2147483647:=by decide
theorem a2D{s:B}(h:J7 (D7 s)=true):a3A (D7 s):=⟨h,by unfold D7;split<;>exact z0⟩
theorem a7t{s:B}(h:J7 (B9 s)=true):a3A (B9 s):=⟨h,z0⟩
theorem a6a{p:Bool×List Tok}(h:∀u∈p.2,a3A u):∀u∈N4 p,a3A u:=by
 unfold N4;split
 ·intro u hu
  rcases List.mem_cons.1 hu with rfl|hu
  ·exact a7t (by decide +kernel)
  ·rcases List.mem_append.1 hu with hu|hu
   ·exact h u hu
   ·rw[List.mem_singleton]at hu
    subst hu;exact a7t (by decide +kernel)
 ·exact h
theorem R7{t:Tok}{l:List Tok}(h:a3A t)(hl:∀u∈l,a3A u):∀u∈t::l,a3A u:=λu hu=>by
 rcases List.mem_cons.1 hu with rfl|hu
 ·exact h
 ·exact hl u hu
theorem b5h{k l:List Tok}(h:∀u∈k,a3A u)(hl:∀u∈l,a3A u):∀u∈k++l,a3A u:=λu hu=>by
 rcases List.mem_append.1 hu with hu|hu
 ·exact h u hu
 ·exact hl u hu
theorem a2U:∀u∈([]:List Tok),a3A u:=λ_ hu=>(List.not_mem_nil hu).elim
theorem b1L(e:Ex):Fine e->Wf e->∀u∈A8 e,a3A u:=by
 refine Ex.ind (p:=λe=>Fine e->Wf e->∀u∈A8 e,a3A u) (λe ih hF hW=>?_) e;obtain⟨⟨hk,hor,ht⟩,hn,hs⟩:=hW.spec;have nm (h:e.k=4\/e.k=5\/e.k=9):a3A (C9 e.s):=⟨a3U (a2B hF h),z0⟩;rcases a0W hF with h|h|h|h|h|h|h|h|h
 ·rw[show A8 e=[a6D e.n] by rw[G1];simp[wr,h]]
  exact R7 ⟨b3i _,hn⟩ a2U
 ·rw[show A8 e=[a2o e.n] by rw[G1];simp[wr,h]]
  exact R7 ⟨a9h (a7F hF hn h),hn⟩ a2U
 ·rcases a6f hn hF h with h0|h0
  ·rw[show A8 e=[D7 [70,65,76,83,69]] by rw[G1];simp[wr,h,h0]]
   exact R7 (a2D (by decide +kernel)) a2U
  ·rw[show A8 e=[D7 [84,82,85,69]] by rw[G1];simp[wr,h,h0]]
   exact R7 (a2D (by decide +kernel)) a2U
 ·rw[show A8 e=[C9 e.s] by rw[G1];simp[wr,h]]
  exact R7 (nm (.inl h)) a2U
 ·rw[show A8 e=[D7 [83,73,90,69],C9 e.s] by rw[G1];simp[wr,h]]
  exact R7 (a2D (by decide +kernel)) (R7 (nm (.inr (.inr h))) a2U)
 ·obtain⟨x,hx⟩:=R0 hF (.inl h)
  have hxm:x∈e.l:=by rw[hx];exact List.Mem.head _
  rw[show A8 e=C9 e.s::B9 [91]::(A8 x++[B9 [93]]) by rw[G1];simp[wr,h,hx,P3]];exact R7 (nm (.inr (.inl h))) (R7 (a7t (by decide +kernel)) (b5h (ih x hxm (hF.part hxm) (hW.part hxm)) (R7 (a7t (by decide +kernel)) a2U)))
 ·obtain⟨x,hx⟩:=R0 hF (.inr (.inl h))
  have hxm:x∈e.l:=by rw[hx];exact List.Mem.head _
  have hm:=b5G hF hor h;rw[show A8 e=G2 e.o::N4 (par x.k,A8 x) by rw[G1];simp[wr,h,hx,P3]];exact R7 (a2D (a6e (by omega))) (a6a (ih x hxm (hF.part hxm) (hW.part hxm)))
 ·obtain⟨x,y,hx⟩:=a4b hF h
  have hxm:x∈e.l:=by rw[hx];exact List.Mem.head _
  have hym:y∈e.l:=by rw[hx];exact List.Mem.tail _ (List.Mem.head _)
  have hm:=b5l hF h;rw[show A8 e=N4 (par x.k,A8 x)++G2 e.o::N4 (par y.k,A8 y) by rw[G1];simp[wr,h,hx,P3]];exact b5h (a6a (ih x hxm (hF.part hxm) (hW.part hxm))) (R7 (a2D (a6e (by omega))) (a6a (ih y hym (hF.part hym) (hW.part hym))))
 ·obtain⟨x,hx⟩:=R0 hF (.inr (.inr h))
  have hxm:x∈e.l:=by rw[hx];exact List.Mem.head _
  have hm:=b1h hF h;obtain⟨o,ho⟩:∃o:Nat,e.t=o:=⟨e.t.toNat,by omega⟩;rw[show A8 e=D7 (N0 e.t)::N4 (par x.k,A8 x) by rw[G1];simp[wr,h,hx,P3],ho];exact R7 (a2D (b8n o (by omega) (by omega)).1) (a6a (ih x hxm (hF.part hxm) (hW.part hxm)))
end
end Go.Xp
