import Derived.Test.YtmhkeomphdddaaaGreatDoorLListsY1
import Derived.RangeFuncRecord
import Derived.Scope
import Derived.Lib.AppendStr
import Derived.Lib.UnsafeStr
import Derived.Lib.Builder
import Derived.Laws.Externs
import Derived.Recover
import Derived.Defers
import Derived.KernelRfl
import Derived.Lib.IndexMore
import Derived.Lib.Bytealg
import Derived.Lib.IndexBytes
import Derived.Lib.SplitLaws
import Derived.Lib.Join
import Derived.Lib.TrimByte
import Derived.Lib.Repeat
import Derived.Lib.ItoaNum
section
namespace Go.Eng
open Go Go.RowKit
def b1W (P:Program) (l:Nat) (v:Value) (w:World) (R:Bool->World->Prop):Prop:=
 ∃ fn tmps assign body,(Instr.yield l #[v]).run P w=.ok (.round l fn tmps assign body) w /\
  RoundIn (fen none) 0 P l fn tmps assign body w fun e w'=>∃ b,e=.returned (.bool b)/\R b w'
theorem b1W.mono {P:Program} {l:Nat} {v:Value} {w:World} {R R':Bool->World->Prop} (h:b1W P l v w R) (hr:∀ b w',R b w'->R' b w'):b1W P l v w R':=by
 obtain⟨fn,tmps,assign,body,h1,h2⟩:=h;exact⟨fn,tmps,assign,body,h1,h2.mono fun e w' ⟨b,e1,e2⟩=>⟨b,e1,hr b w' e2⟩⟩
section
variable {P:Program} {ops:Array Oper} {Q:Exit->Act->World->Prop} {n:Cx} {F:Fm} {h h':List Res} {m:View} {rest:List Oper}
variable {op:Op} {ty:TypeId} {pos:String} {after:Array Edge} {d:Nat} {v:Value}
theorem St.at {b:Nat} {o:Obj} {w:World} (s:St m h w) (hm:Res.pt b o ∈ h):w.heap[b]?=some o:=s.ok _ hm
theorem S3 {eff:List Nat} {t':Tl} {hs hp:List Res} {i:Nat} {s:Tr} {x y:Operand} {t e:TypeId} {sz by_ l cap k c l':Nat} {a b:Option Addr} {xs ys zs:List Value} {hq:Value->List Res}
 (ho:ops[i]?=some ⟨some d,.call ⟨.builtin .append,#[x,y],#[t,t]⟩,ty,pos,after,none⟩) (he:eff.contains i=true) (E:EL P t e sz by_) (ex:Ev n F x (.slice a l cap)) (ey:Ev n F y (.slice b k c))
 (rd:Rd m (hp++hs) b k c sz ys) (h1:∀ u ∈ ys,u.oneCell'=true) (hl:l+k=l') (hz:xs++ys=zs) (h63:l'<=9223372036854775807) (hbytes:l' * by_<=140737488355328)
 (u:∀ v',Upd hp (.row (.slice a l cap) e sz l xs) (.row v' e sz l' zs) (hq v')) (hd:d < n.num) (kk:∀ a' cap',SR P ops Q n eff t' hs s ((d,.slice a' l' cap')::F) (hq (.slice a' l' cap')) m) :
 SR P ops Q n eff t' hs (.op i s) F hp m:=by
 subst hl hz;exact SR.append ho he E ex ey rd h1 h63 hbytes u hd kk
structure WY (P:Program) (ops:Array Oper) (Q:Exit->Act->World->Prop) (n:Cx) (l:List Oper) (F:Fm) (h:List Res) (m:View):Prop where
 e:∀ a w,Fr n F a->St m h w->wpListIn (fen n.ro) 0 P ops (W5 Q) l a w
theorem a6J {id:Nat} {l:List Oper} {G:List (Option Nat)} (hG:a8j l=some G) (k:∀ ops:Array Oper,(∀ j t,G[j]?=some (some t)->a1O ops j=some t)->WY P ops Q n l F h m):WC P (.region id l.toArray false) Q n F h m:=.mk fun a w ha hs=>
 wpIn_region_lit ((k _ fun j t hj=>by
  have hG:=a6p hG;subst hG;unfold a1O;simp only[List.getElem?_map] at hj;simp only[List.getElem?_toArray];cases hl:l[j]? with
  | none=>simp[hl] at hj
  | some o=>simpa [hl] using hj).e a w ha hs)
theorem b0d {o:Oper} {a:Act} {w w':World} {K:Act->World->Prop} {v:Value} (hro:n.ro=none) (hr:(execOp a.eval o).run P w=.ok (.value v) w') (h:K (a.put o.dst v) w'):o.wpIn (fen n.ro) 0 P a w K Q:=by
 refine⟨fun _ _=>trivial,?_⟩;show o.uponIn (fen n.ro) 0 P a K Q ((o.semAt n.ro a.eval).run P w);rw[hro,Oper.semAt_none,hr];exact h
theorem WY.po (hro:n.ro=none) (hp:PO P ⟨some d,op,ty,pos,after,none⟩ n F h m v) (hn:d < n.num) (k:WY P ops Q n rest ((d,v)::F) h m) :
 WY P ops Q n (⟨some d,op,ty,pos,after,none⟩::rest) F h m:=.mk fun a w ha hs=>by
 unfold wpListIn;rw[if_pos (show Region.wanted _ _=true from rfl)];exact b0d hro (hp a w ha hs) (k.e _ _ (ha.put hn v) hs)
def noPan (Q:Exit->Act->World->Prop):Exit->Act->World->Prop
 | .panic _,_,_=>False
 | e,a,w=>Q e a w
end
end Go.Eng
namespace Go.Eng
open Go Go.RowKit
section
variable {P:Program} {ops:Array Oper} {Q:Exit->Act->World->Prop} {n:Cx} {F:Fm} {h h':List Res} {m:View} {rest:List Oper}
variable {op:Op} {ty:TypeId} {pos:String} {after:Array Edge} {d:Nat} {v:Value} {dst:Option Nat} {g:Option (Nat × Bool)}
end
end Go.Eng
namespace Go.Eng
open Go Go.RowKit
section
variable {P:Program} {ops:Array Oper} {Q:Exit->Act->World->Prop} {n:Cx} {F:Fm} {m:View}
variable {ty:TypeId} {pos:String} {after:Array Edge} {d:Nat} {eff:List Nat} {hs hp:List Res} {i:Nat} {s:Tr} {t':Tl}
end
end Go.Eng
namespace Go.Eng
open Go Go.RowKit
def RX (m:View) (R:Value->View->List Res->Prop) (X:Value->List Res->Prop) (e:Ending) (w:World):Prop:=
 RQ m R e w\/∃ v h',e=.panicked [{ v:=v,recovered:=false }]/\St m h' w/\X v h'
structure CX (P:Program) (f:FuncId) (args:List Value) (h:List Res) (m:View) (R:Value->View->List Res->Prop) (X:Value->List Res->Prop):Prop where
 enter:∀ as w,(callFunc f as).run P w=.ok (.enter f as) w
 calls:∀ w,St m h w->Calls P f args.toArray w (RX m R X)
section
variable {P:Program} {ops:Array Oper} {Q:Exit->Act->World->Prop} {n:Cx} {F:Fm} {h h':List Res} {m:View} {rest:List Oper}
variable {op:Op} {ty:TypeId} {pos:String} {after:Array Edge} {d:Nat} {v:Value} {dst:Option Nat} {g:Option (Nat × Bool)}
theorem CX.ofCT {f:FuncId} {args:List Value} {R:Value->View->List Res->Prop} {X:Value->List Res->Prop} (c:CT P f args h m R):CX P f args h m R X:=⟨c.enter,fun w hs=>Calls.mono (c.calls w hs) fun _ _ q=>.inl q⟩
theorem CX.mono {f:FuncId} {args:List Value} {R R':Value->View->List Res->Prop} {X X':Value->List Res->Prop} (c:CX P f args h m R X) (hr:∀ v m' h',R v m' h'->R' v m' h') (hx:∀ v h',X v h'->X' v h'):CX P f args h m R' X':=
 ⟨c.enter,fun w hs=>Calls.mono (c.calls w hs) fun _ _ q=>q.imp (fun ⟨v,m',h',e,a,b,r⟩=>⟨v,m',h',e,a,b,hr _ _ _ r⟩) fun ⟨v,h',e,s,x⟩=>⟨v,h',e,s,hx _ _ x⟩⟩
theorem CX.body {f:FuncId} {args:List Value} {R:Value->View->List Res->Prop} {X:Value->List Res->Prop} {fn:Func} {c:Code} {F0:Fm} {N:Nat} (he:∀ as w,(callFunc f as).run P w=.ok (.enter f as) w)
 (hf:P.funcs[f]?=some fn) (hb:fn.body=some c) (hN:fn.ntmps=N) (hl:args.length<=N) (hF:a4d 0 args=some F0) (k:WC P c (bodyPost P fn (RX m R X)) ⟨N,none,[]⟩ F0 h m):CX P f args h m R X:=by
 have hF:=a3a hF;subst hF hN;exact⟨he,fun w hs=>calls_of_wp hf hb (wpIn_wide.1 (wpIn_mono (k.e _ w (Fr.enter args fn.ntmps hl) hs) fun _ _ _ q=>a3b q))⟩
theorem toX {fn:Func} {ex:Exit} {m0:View} {R:Value->View->List Res->Prop} {X:Value->List Res->Prop} (hex:ex=.ret\/ex=.normal) (k:∀ a w,Fr n F a->St m h w->bodyPost P fn (RQ m0 R) ex a w) :
 ∀ a w,Fr n F a->St m h w->bodyPost P fn (RX m0 R X) ex a w:=fun a w ha hs=>by
 rcases hex with rfl | rfl
 ·obtain⟨h1,v,h2,h3⟩:=k a w ha hs
  exact⟨h1,v,h2,.inl h3⟩
 ·obtain⟨h1,v,h2,h3⟩:=k a w ha hs
  exact⟨h1,v,h2,.inl h3⟩
theorem a1d {fn:Func} {m0:View} {R:Value->View->List Res->Prop} {X:Value->List Res->Prop} (h':List Res) (hle:m0.le m) (hd:h'.Sublist h) (hX:X v h') (hds:n.ds=[]:=by rfl) :
 ∀ a w,Fr n F a->St m h w->bodyPost P fn (RX m0 R X) (.panic [{ v:=v,recovered:=false }]) a w:=fun _ _ ha hs=>
 ⟨ha.d.trans hds,.inr ⟨v,h',rfl,(hs.sub hd).back hle,hX⟩⟩
theorem WL.panic {x:Operand} {t:TypeId} {u:Value} (ex:Ev n F x (.iface t u)) (k:∀ a w,Fr n F a->St m h w->Q (.panic [{ v:=.iface t u,recovered:=false }]) a w) :
 WL P ops Q n (⟨dst,.panic x,ty,pos,after,none⟩::rest) F h m:=.mk fun a w ha hs=>by
 refine E8 rfl ?_;unfold Oper.wp;have hr:(execOp a.eval ⟨dst,.panic x,ty,pos,after,none⟩).run P w=.halt (.panic (.iface t u)) w:=by
  simp[execOp,ex a ha];rfl
 rw[hr];exact k a w ha hs
theorem A0 {f:Operand} {args:List Operand} {tys:Array TypeId} {vs first cap:List Value} {q:FuncId} {R:Value->List Res->Prop} {X:Value->List Res->Prop} (ef:Ev n F f (.func (.func q) first.toArray cap.toArray)) (ea:Evs n F args vs)
 (c:CX P q (first++vs++cap) h m (fun v _ h'=>R v h') X) (hd:d < n.num) (kx:∀ v h',X v h'->∀ a w,Fr n F a->St m h' w->Q (.panic [{ v:=v,recovered:=false }]) a w) (k:∀ v h',R v h'->WL P ops Q n rest ((d,v)::F) h' m) :
 WL P ops Q n (⟨some d,.call ⟨.value f,args.toArray,tys⟩,ty,pos,after,none⟩::rest) F h m:=.mk fun a w ha hs=>by
 refine E8 rfl ?_;unfold Oper.wp;rw[S8 ha ef ea c.enter];refine Calls.mono (c.calls w hs) ?_;rintro e w' (⟨v,m',h',rfl,hle,hst,hR⟩ | ⟨v,h',rfl,hst,hX⟩)
 ·exact k v h' hR _ _ (ha.put hd v) (hst.back hle)
 ·exact kx v h' hX a w' ha hst
theorem a1e {eff:List Nat} {t:Tl} {hs hp:List Res} {i:Nat} {s:Tr} {f:Operand} {args:List Operand} {tys:Array TypeId} {vs first cap:List Value} {q:FuncId} {R:Value->List Res->Prop} {X:List Res->Value->List Res->Prop}
 (ho:ops[i]?=some ⟨some d,.call ⟨.value f,args.toArray,tys⟩,ty,pos,after,none⟩) (he:eff.contains i=true) (ef:Ev n F f (.func (.func q) first.toArray cap.toArray)) (ea:Evs n F args vs)
 (c:∀ fr,CX P q (first++vs++cap) (hp++(fr++hs)) m (fun v _ h'=>∃ hp',h'=hp'++(fr++hs)/\R v hp') (X fr)) (hd:d < n.num)
 (kx:∀ fr v h',X fr v h'->∀ a w,Fr n [] a->St m h' w->Q (.panic [{ v:=v,recovered:=false }]) a w) (k:∀ v hp',R v hp'->SR P ops Q n eff t hs s ((d,v)::F) hp' m) :
 SR P ops Q n eff t hs (.op i s) F hp m:=⟨_,ho,fun x hx=>by cases hx;exact hd,by
 rw[he];refine⟨fun fr a w ha st=>⟨fun _=>?_,fun h=>by simp[Region.wanted] at h⟩⟩;rw[S8 ha ef ea (c fr).enter];have hpm:(fr++(hp++hs)).Perm (hp++(fr++hs)):=by
  rw[<- List.append_assoc,<- List.append_assoc];exact List.perm_append_comm.append_right hs
 refine Calls.mono ((c fr).calls w (st.perm hpm)) ?_;rintro e w' (⟨v,m',h',rfl,hle,hst,hp',rfl,hR⟩ | ⟨v,h',rfl,hst,hX⟩)
 ·refine .inl ⟨v,rfl,m,hp',View.le.refl m,(hst.back hle).perm ?_,nofun,(k v hp' hR).e⟩
  rw[<- List.append_assoc,<- List.append_assoc];exact List.perm_append_comm.append_right hs
 ·exact .inr ⟨_,rfl,fun a' ha'=>kx fr v h' hX a' w' ha' hst⟩⟩
theorem U2 {x:Operand} {t:TypeId} {fs:Array Field} (ht:P.underlying t=some (.struct fs)) (ex:Ev n F x v):PO P ⟨dst,.makeInterface t x,ty,pos,after,g⟩ n F h m (.iface t v):=.mk fun a w ha _=>by
 simp[execOp,ex a ha,Instr.makeInterface,run_underlying ht]
theorem a2I {x:Operand} {t s:TypeId} {fs:Array Field} (ht:P.underlying s=some (.struct fs)) (ex:Ev n F x (.iface s v)):PO P ⟨dst,.typeAssert x t s true,ty,pos,after,g⟩ n F h m (.tuple #[v,.bool true]):=.mk fun a w ha _=>by
 have h1:(Instr.typeAssert (.iface s v) t s true).run P w=.ok (.tuple #[v,.bool true]) w:=by
  simp[Instr.typeAssert,run_underlying ht]
 simp[execOp,ex a ha,h1]
theorem a7k {x y:Operand} {t t':TypeId} {ms:Array (String × TypeId)} (ht:P.underlying t=some (.interface ms)) (ex:Ev n F x .nilIface) (ey:y=.const .nilIface) :
 PO P ⟨dst,.binOp .neq t x y t',ty,pos,after,g⟩ n F h m (.bool false):=.mk fun b w ha _=>by
 subst ey;have h1:∀ d,(Op.equalIn (d+1) t .nilIface .nilIface).run P w=.ok true w:=fun d=>by
  simp[Op.equalIn,run_underlying ht]
 have h2:(Op.equal t .nilIface .nilIface).run P w=.ok true w:=h1 9999;have h3:(eqGuard .neq t x (.const .nilIface) .nilIface .nilIface).run P w=.ok () w:=by simp[eqGuard]
 have h4:b.eval (.const .nilIface)=.nilIface:=rfl;simp[execOp,ex b ha,h4,binOp,h2,h3]
theorem a7h {x y:Operand} {t t' s:TypeId} {ms:Array (String × TypeId)} {u:Value} (ht:P.underlying t=some (.interface ms)) (ex:Ev n F x (.iface s u)) (ey:y=.const .nilIface) :
 PO P ⟨dst,.binOp .neq t x y t',ty,pos,after,g⟩ n F h m (.bool true):=.mk fun b w ha _=>by
 subst ey;have h1:∀ d,(Op.equalIn (d+1) t (.iface s u) .nilIface).run P w=.ok false w:=fun d=>by
  simp[Op.equalIn,run_underlying ht]
 have h2:(Op.equal t (.iface s u) .nilIface).run P w=.ok false w:=h1 9999;have h3:(eqGuard .neq t x (.const .nilIface) (.iface s u) .nilIface).run P w=.ok () w:=by simp[eqGuard]
 have h4:b.eval (.const .nilIface)=.nilIface:=rfl;simp[execOp,ex b ha,h4,binOp,h2,h3]
end
end Go.Eng
namespace Go.Eng
open Go Go.RowKit
def a84 (q:FuncId) (cap:List Value):Deferred:={ target:=.fn (.func q) cap.toArray,args:=#[] }
section
variable {P:Program} {ops:Array Oper} {Q:Exit->Act->World->Prop} {n:Cx} {F:Fm} {h h':List Res} {m:View} {rest:List Oper}
variable {op:Op} {ty:TypeId} {pos:String} {after:Array Edge} {d:Nat} {v:Value} {dst:Option Nat} {g:Option (Nat × Bool)}
theorem WY.defer {f:Operand} {tys:Array TypeId} {q:FuncId} {cap:List Value} (hro:n.ro=none) (ef:Ev n F f (.func (.func q) #[] cap.toArray))
 (k:∀ a w,Fr { n with ds:=a84 q cap::n.ds } F a->St m h w->Q .normal a w) :
 WY P ops Q n [⟨none,.defer ⟨.value f,#[],tys⟩,ty,pos,after,none⟩] F h m:=.mk fun a w ha hs=>by
 unfold wpListIn;rw[if_pos (show Region.wanted _ _=true from rfl)];refine⟨fun _ _=>trivial,?_⟩;show Oper.uponIn (fen n.ro) 0 P _ a _ (W5 Q) ((Oper.semAt n.ro a.eval _).run P w);rw[hro,Oper.semAt_none];have hr:(execOp a.eval ⟨none,.defer ⟨.value f,#[],tys⟩,ty,pos,after,none⟩).run P w=.ok (.defer (a84 q cap)) w:=by
  simp[execOp,resolve,ef a ha,Deferred.ofValue,a84]
 rw[hr];exact k _ w ⟨by show a84 q cap::a.defers=_;rw[ha.d],by simpa [Act.put] using ha.sz,fun t v ht=>by simpa [Act.put] using ha.get t v ht⟩ hs
theorem CT.bodyD {f:FuncId} {args:List Value} {R:Value->View->List Res->Prop} {fn:Func} {c:Code} {F0:Fm} {N:Nat} (he:∀ as w,(callFunc f as).run P w=.ok (.enter f as) w)
 (hf:P.funcs[f]?=some fn) (hb:fn.body=some c) (hN:fn.ntmps=N) (hl:args.length<=N) (hF:a4d 0 args=some F0) (k:WC P c (bodyPostD P fn (RQ m R)) ⟨N,none,[]⟩ F0 h m):CT P f args h m R:=by
 have hF:=a3a hF;subst hF hN;exact⟨he,fun w hs=>calls_of_wp_defers hf hb (wpIn_wide.1 (wpIn_mono (k.e _ w (Fr.enter args fn.ntmps hl) hs) fun _ _ _ q=>a3b q))⟩
def a8m (P:Program) (q:FuncId) (cap:List Value) (u:FrameMode) (m:View) (h h2:List Res):Prop:=
 ∀ w,St m h w->CallsD P q cap.toArray u w fun e u' w'=>(∃ v,e=.returned v)/\settle u'=.returning/\St m h2 w'
theorem a9k {fn:Func} {tmps:Array Value} {R:Ending->World->Prop} {q:FuncId} {cap:List Value} {u:FrameMode} {h2:List Res} {w:World} (he:∀ as w,(callFunc q as).run P w=.ok (.enter q as) w) (hu:u≠.run) (hd:a8m P q cap u m h h2) (hs:St m h w)
 (hr:∀ w',St m h2 w'->∃ v,(results fn tmps).run P w'=.ok v w'/\R (.returned v) w'):Leaves P fn tmps R [a84 q cap] u w:=by
 refine leaves_cons hu (f:=q) (args:=cap.toArray) (by simp[invoke,he]) ((hd w hs).mono ?_);rintro e u' w' ⟨⟨v,rfl⟩,hset,hs'⟩;show Leaves P fn tmps R [] (settle u') w';rw[hset];exact hr w' hs'
theorem c1a {fn:Func} {ex:Exit} {m0:View} {R:Value->View->List Res->Prop} {r r' r'':ResultVar} {v v' v'':Value} {q:FuncId} {cap:List Value} (hex:ex=.ret\/ex=.normal) (hds:n.ds=[a84 q cap]) (he:∀ as w,(callFunc q as).run P w=.ok (.enter q as) w)
 (hd:a8m P q cap .returning m h h) (hfn:fn.results=#[r,r',r'']) (x1:RV P n F h m r v) (x2:RV P n F h m r' v') (x3:RV P n F h m r'' v'') (hle:m0.le m) (hsub:h'.Sublist h) (hR:R (.tuple #[v,v',v'']) m h') :
 ∀ a w,Fr n F a->St m h w->bodyPostD P fn (RQ m0 R) ex a w:=fun a w ha hs=>by
 have key:Leaves P fn a.tmps (RQ m0 R) a.defers .returning w:=by
  rw[ha.d,hds];refine a9k he (by simp) hd hs fun w' hs'=>⟨.tuple #[v,v',v''],?_,_,m,h',rfl,hle,hs'.sub hsub,hR⟩
  have h1:=x1.e a w' ha hs';have h2:=x2.e a w' ha hs';have h3:=x3.e a w' ha hs';simp[W9,hfn,h1,h2,h3]
 rcases hex with rfl | rfl <;> exact key
theorem c3z {fn:Func} {m0:View} {R:Value->View->List Res->Prop} {r r' r'':ResultVar} {v v' v'' u:Value} {q:FuncId} {cap:List Value} {h2:List Res} (hds:n.ds=[a84 q cap]) (he:∀ as w,(callFunc q as).run P w=.ok (.enter q as) w)
 (hd:a8m P q cap (.panicking [{ v:=u,recovered:=false }]) m h h2) (hfn:fn.results=#[r,r',r'']) (x1:RV P n F h2 m r v) (x2:RV P n F h2 m r' v') (x3:RV P n F h2 m r'' v'') (hle:m0.le m) (hsub:h'.Sublist h2) (hR:R (.tuple #[v,v',v'']) m h') :
 ∀ a w,Fr n F a->St m h w->bodyPostD P fn (RQ m0 R) (.panic [{ v:=u,recovered:=false }]) a w:=fun a w ha hs=>by
 show Leaves P fn a.tmps (RQ m0 R) a.defers (.panicking [{ v:=u,recovered:=false }]) w;rw[ha.d,hds];refine a9k he (by simp) hd hs fun w' hs'=>⟨.tuple #[v,v',v''],?_,_,m,h',rfl,hle,hs'.sub hsub,hR⟩
 have h1:=x1.e a w' ha hs';have h2:=x2.e a w' ha hs';have h3:=x3.e a w' ha hs';simp[W9,hfn,h1,h2,h3]
def c2o (P:Program) (fn:Func) (m:View) (h2:List Res):Exit->Act->World->Prop:=fun e a w=>
 (e=.normal\/e=.ret)/\a.defers=[]/\(∃ v,(results fn a.tmps).run P w=.ok v w)/\St m h2 w
theorem a6r {fn:Func} {ex:Exit} {h2:List Res} (hex:ex=.ret\/ex=.normal) (hfn:fn.results=#[]) (hd:h2.Sublist h) (hds:n.ds=[]:=by rfl):∀ a w,Fr n F a->St m h w->c2o P fn m h2 ex a w:=fun a w ha hs=>
 ⟨hex.symm,ha.d.trans hds,⟨.tuple #[],by simp[results,hfn]⟩,hs.sub hd⟩
theorem b8J {fn:Func} {c0:Frame} {cs:List Frame} {u2:FrameMode} {h2:List Res} (hset:settle u2=.returning) {e:Exit} {a:Act} {w:World} (q:c2o P fn m h2 e a w) :
 bodyPostS P fn c0 cs (fun e u' w'=>(∃ v,e=.returned v)/\settle u'=.returning/\St m h2 w') e a ({ c0 with mode:=u2 }::cs) w:=by
 obtain⟨he,h1,⟨v,h3⟩,h4⟩:=q;rcases he with rfl | rfl <;> exact⟨h1,u2,rfl,v,h3,⟨v,rfl⟩,hset,h4⟩
theorem b6g {Q:Exit->Act->List Frame->World->Prop} {i:Nat} {l:List Nat} {o:Oper} {a:Act} {cs:List Frame} {w:World} (ho:ops[i]?=some o) (hw:Region.wanted o (yielded ops a.tmps)=true) (hr:(execOp a.eval o).run P w=.ok .recover w)
 (h1:∀ v cs',recoverD cs=some (v,cs')->wpOpsS P ops Q l (a.put o.dst v) cs' w) (h2:recoverD cs=none->wpOpsS P ops Q l (a.put o.dst .nilIface) cs w):wpOpsS P ops Q (i::l) a cs w:=by
 unfold wpOpsS;simp only[ho];rw[if_pos hw,hr];simp only;split
 ·rename_i v cs' e
  exact h1 v cs' e
 ·rename_i e
  exact h2 e
theorem b09 {Q:Exit->Act->List Frame->World->Prop} {i:Nat} {l:List Nat} {o:Oper} {a:Act} {cs:List Frame} {w:World} {v:Value} (ho:ops[i]?=some o) (hw:Region.wanted o (yielded ops a.tmps)=true) (hr:(execOp a.eval o).run P w=.ok (.value v) w)
 (h1:wpOpsS P ops Q l (a.put o.dst v) cs w):wpOpsS P ops Q (i::l) a cs w:=by
 unfold wpOpsS;simp only[ho];rw[if_pos hw,hr];exact h1
theorem a6o {q:FuncId} {cap:List Value} {fn:Func} {l:List Oper} {id dr d2:Nat} {t1 t2:TypeId} {p1 p2:String} {a1 a2:Array Edge} {y:Code} {u u2:FrameMode} {r:Value} {N:Nat} {F0:Fm} {h2:List Res} (hf:P.funcs[q]?=some fn) (hb:fn.body=some (.seq (.region id l.toArray false) y))
 (hl0:l=[⟨some dr,.call ⟨.builtin .recover,#[],#[]⟩,t1,p1,a1,none⟩,⟨some d2,.assign (.tmp dr),t2,p2,a2,none⟩]) (hN:fn.ntmps=N) (hl:cap.length<=N) (hF:a4d 0 cap=some F0) (hdr:dr < N) (hd2:d2 < N)
 (hrec:∀ (c0:Frame) cs,c0.mode=u->(recoverD (c0::cs)=some (r,{ c0 with mode:=u2 }::cs))\/(recoverD (c0::cs)=none/\r=.nilIface/\u2=u)) (hset:settle u2=.returning)
 (k:WC P y (c2o P fn m h2) ⟨N,none,[]⟩ ((d2,r)::(dr,r)::F0) h m):a8m P q cap u m h h2:=fun w hs=>by
 have hF:=a3a hF;subst hF hN hl0;refine callsD_of_wpS hf hb fun c0 cs hu=>wpS_seq (wpS_region ?_)
 have fr0:=Fr.enter cap fn.ntmps hl;have fr1:=fr0.put hdr r;have fr2:=fr1.put hd2 r;have fin:∀ cs',cs'={ c0 with mode:=u2 }::cs->y.wpS P (bodyPostS P fn c0 cs (fun e u' w'=>(∃ v,e=.returned v)/\settle u'=.returning/\St m h2 w')) _ cs' w:=fun cs' e=>by
  subst e;exact wpS_of_wp (wp_mono (wpIn_wide.1 (k.e _ w fr2 hs)) fun e a' w' q=>b8J hset (a3b q))
 have hx:∀ (a:Act),(execOp a.eval ⟨some dr,.call ⟨.builtin .recover,#[],#[]⟩,t1,p1,a1,none⟩).run P w=.ok .recover w:=fun a=>by
  simp[execOp,resolve,invoke,builtin]
 have hy:∀ (a:Act),a.tmps[dr]?=some r->(execOp a.eval ⟨some d2,.assign (.tmp dr),t2,p2,a2,none⟩).run P w=.ok (.value r) w:=fun a h=>by
  simp[execOp,Act.eval,h]
 have hget:=fr1.get dr r (by simp[look]);show wpOpsS P _ _ [0,1] _ (c0::cs) w;refine b6g rfl rfl (hx _) (fun v cs' e=>?_) (fun e=>?_)
 ·rcases hrec c0 cs hu with h1 | ⟨h1,_⟩
  ·rw[h1] at e
   cases e;exact b09 rfl rfl (hy _ hget) (fin _ rfl)
  ·rw[h1] at e
   cases e
 ·rcases hrec c0 cs hu with h1 | ⟨_,rfl,rfl⟩
  ·rw[h1] at e
   cases e
  ·exact b09 rfl rfl (hy _ hget) (fin _ (by rw[<- hu]))
theorem b1F {u:FrameMode} (hu:u=.returning) (c0:Frame) (cs:List Frame) (h:c0.mode=u):(recoverD (c0::cs)=some (Value.nilIface,{ c0 with mode:=u }::cs))\/(recoverD (c0::cs)=none/\Value.nilIface=Value.nilIface/\u=u):=by
 subst hu;refine .inr ⟨?_,rfl,rfl⟩;simp only[recoverD,h]
theorem b1w {v:Value} (c0:Frame) (cs:List Frame) (h:c0.mode=.panicking [{ v:=v,recovered:=false }]):(recoverD (c0::cs)=some (v,{ c0 with mode:=.panicking [{ v:=v,recovered:=true }] }::cs))\/(recoverD (c0::cs)=none/\v=Value.nilIface/\(.panicking [{ v:=v,recovered:=true }]:FrameMode)=.panicking [{ v:=v,recovered:=false }]):=by
 refine .inl ?_;simp only[recoverD,h]
theorem a6y (v:Value):settle (.panicking [{ v:=v,recovered:=true }])=.returning:=rfl
end
end Go.Eng
namespace Go.Eng
open Go Go.RowKit
section
variable {P:Program} {ops:Array Oper} {Q:Exit->Act->World->Prop} {n:Cx} {F:Fm} {m:View}
variable {ty:TypeId} {pos:String} {after:Array Edge} {d:Nat}
theorem b6h {α:Type} {enc:α->List Value} {e sz:Nat} {xs:List α} {eff:List Nat} {t:Tl} {hs hp hp0:List Res} {r:Res} {i:Nat} {s:Tr} {f:Operand} {args:List Operand} {tys:Array TypeId} {vs first cap:List Value} {q:FuncId}
 (ho:ops[i]?=some ⟨some d,.call ⟨.value f,args.toArray,tys⟩,ty,pos,after,none⟩) (he:eff.contains i=true) (ef:Ev n F f (.func (.func q) first.toArray cap.toArray)) (ea:Evs n F args vs) (hdel:Del hp r hp0)
 (c:∀ fr,CT P q (first++vs++cap) (r::(fr++(hp0++hs))) m (fun v _ h'=>b4N enc e sz (fr++(hp0++hs)) xs v h')) (hd:d < n.num)
 (k:∀ a c,SR P ops Q n eff t hs s ((d,.slice a xs.length c)::F) (.row (.slice a xs.length c) e sz xs.length (fl enc xs)::hp0) m):SR P ops Q n eff t hs (.op i s) F hp m:=⟨_,ho,fun x hx=>by cases hx;exact hd,by
 rw[he];refine⟨fun fr a w ha st=>⟨fun _=>?_,fun h=>by simp[Region.wanted] at h⟩⟩;rw[S8 ha ef ea (c fr).enter];have hpm:(fr++(hp++hs)).Perm (r::(fr++(hp0++hs))):=
  ((hdel.perm.append_right hs).append_left fr).trans List.perm_middle
 refine Calls.mono ((c fr).calls w (st.perm hpm)) ?_;rintro e w' ⟨v',m',h',rfl,hle,hst,a1,c1,k1,rfl,rfl,rfl⟩;exact .inl ⟨_,rfl,m,_,View.le.refl m,(hst.perm (List.perm_middle (l₁:=fr) (l₂:=hp0++hs)).symm).back hle,nofun,(k a1 c1).e⟩⟩
theorem G4 {α:Type} {enc:α->List Value} {e sz:Nat} {xs:List α} {eff:List Nat} {t:Tl} {hs hp:List Res} {i:Nat} {s:Tr} {f:Operand} {args:List Operand} {tys:Array TypeId} {vs first cap:List Value} {q:FuncId}
 (ho:ops[i]?=some ⟨some d,.call ⟨.value f,args.toArray,tys⟩,ty,pos,after,none⟩) (he:eff.contains i=true) (ef:Ev n F f (.func (.func q) first.toArray cap.toArray)) (ea:Evs n F args vs)
 (c:∀ fr,CT P q (first++vs++cap) (fr++(hp++hs)) m (fun v _ h'=>b4N enc e sz (fr++(hp++hs)) xs v h')) (hd:d < n.num)
 (k:∀ a c,SR P ops Q n eff t hs s ((d,.slice a xs.length c)::F) (.row (.slice a xs.length c) e sz xs.length (fl enc xs)::hp) m):SR P ops Q n eff t hs (.op i s) F hp m:=⟨_,ho,fun x hx=>by cases hx;exact hd,by
 rw[he];refine⟨fun fr a w ha st=>⟨fun _=>?_,fun h=>by simp[Region.wanted] at h⟩⟩;rw[S8 ha ef ea (c fr).enter];refine Calls.mono ((c fr).calls w st) ?_;rintro e w' ⟨v',m',h',rfl,hle,hst,a1,c1,k1,rfl,rfl,rfl⟩;exact .inl ⟨_,rfl,m,_,View.le.refl m,(hst.perm (List.perm_middle (l₁:=fr) (l₂:=hp++hs)).symm).back hle,nofun,(k a1 c1).e⟩⟩
end
end Go.Eng
namespace Go.Eng
open Go Go.RowKit
section
variable {P:Program} {ops:Array Oper} {Q:Exit->Act->World->Prop} {n:Cx} {F:Fm} {h hp hs:List Res} {m:View}
variable {ty:TypeId} {pos:String} {after:Array Edge} {d:Nat} {dst:Option Nat} {g:Option (Nat × Bool)}
theorem b2O {x i:Operand} {t e len:Nat} {u:TypeDesc} {k:IntKind} {j:Int} {q:Nat} {cs:List Value} {v:Value} (ht:P.underlying t=some (.array len e)) (he:P.underlying e=some u) (hp:L5 u=true)
 (hsz:(P.info? e).map (·.size)=some 1) (ex:Ev n F x (.agg cs.toArray)) (ei:Ev n F i (.int k j)) (hj:j=(q:Int)) (hq:q < len) (hv:cs[q]?=some v) :
 PO P ⟨dst,.index t x i,ty,pos,after,g⟩ n F h m v:=.mk fun b w ha _=>by
 subst hj;have e1:¬ len<=q:=by omega
 have hs:(sizeOf e).run P w=.ok 1 w:=by
  cases hi:P.info? e with
  | none=>rw[hi] at hsz;cases hsz
  | some y=>rw[hi] at hsz;simp at hsz;simp[sizeOf,typeInfo,hi,hsz]
 simp[execOp,ex b ha,ei b ha,Instr.index,asIntOf,run_underlying ht,part,L0 w he hp,hs,hv,e1]
theorem a1G {eff tt:List Nat} {tl:List Oper} {H:List Res} (htl:tt.filterMap (ops[·]?)=tl) (hH:(hp++hs).Perm H) (k:WL P ops Q n tl F H m):SR P ops Q n eff ⟨tt,[]⟩ hs .nil F hp m:=
 ⟨by subst htl;exact WL.perm hH k⟩
theorem V2 {α:Type} (bl l t:List α):(bl++(l++t)).Perm (l++(bl++t)):=by
 rw[<- List.append_assoc,<- List.append_assoc];exact List.perm_append_comm.append_right t
end
end Go.Eng
namespace Go.Eng
open Go Go.RowKit
section
variable {H:Type} {enc:TypeId × Value->H} {P:Program} {W:World} {held:Bool} {a2C:Nat} {t:TypeId} {cs:List Value} {x:DataW H × List MemPlace}
end
end Go.Eng
end
namespace Go.Eng
section
open Go Go.RowKit
section
variable {P:Program} {Q:Exit->Act->World->Prop} {n:Cx} {y:Code}
def KK (P:Program) (y:Code) (Q:Exit->Act->World->Prop) (ro:Option Nat) (a:Act) (w:World):Prop:=y.wpIn (fen ro) 0 P (W5 Q) a w
theorem KKh:∀ ds F h m,WC P y Q { n with ds:=ds } F h m->∀ a w,Fr { n with ds:=ds } F a->St m h w->KK P y Q n.ro a w:=fun _ _ _ _ k=>k.e
end
section
variable {P:Program} {ops:Array Oper} {Q:Exit->Act->World->Prop} {n:Cx} {F:Fm} {h h':List Res} {m:View} {rest:List Oper}
variable {op:Op} {ty:TypeId} {pos:String} {after:Array Edge} {d:Nat} {v:Value} {dst:Option Nat} {g:Option (Nat × Bool)}
theorem Et {t:Nat} (h:look F t=some v:=by exact rfl):Ev n F (.tmp t) v:=Ev.tmp h
theorem Eg {t:Nat} {c:Bool} (hc:c=true) (h:look F t=some (gv c v):=by exact rfl):Ev n F (.tmp t) v:=S7 h hc
theorem E0:Evs n F [] []:=Evs.nil
theorem E1 {x:Operand} (a:Ev n F x v):Evs n F [x] [v]:=.cons a .nil
theorem E2 {x x2:Operand} {v2:Value} (a:Ev n F x v) (a2:Ev n F x2 v2):Evs n F [x,x2] [v,v2]:=.cons a (.cons a2 .nil)
theorem E3 {x x2 x3:Operand} {v2 v3:Value} (a:Ev n F x v) (a2:Ev n F x2 v2) (a3:Ev n F x3 v3):Evs n F [x,x2,x3] [v,v2,v3]:=.cons a (.cons a2 (.cons a3 .nil))
theorem E4 {x x2 x3 x4:Operand} {v2 v3 v4:Value} (a:Ev n F x v) (a2:Ev n F x2 v2) (a3:Ev n F x3 v3) (a4:Ev n F x4 v4):Evs n F [x,x2,x3,x4] [v,v2,v3,v4]:=.cons a (.cons a2 (.cons a3 (.cons a4 .nil)))
theorem Me {α:Type} {a:α} {l:List α} (h:List.Mem a l:=by repeat (first | exact b2R _ | apply b2Q)):List.Mem a l:=h
theorem Sb {α:Type} {l r:List α} (h:l.Sublist r:=by repeat (first | exact c3t _ | exact c3v _ _ | exact c2Q _ _ | refine c3w _ ?_ | apply c3b | refine c3s _ ?_)):l.Sublist r:=h
theorem Up {r r':Res} {l l':List Res} (h:Upd l r r' l':=by repeat (first | exact Upd.here | apply Upd.next)):Upd l r r' l':=h
theorem De {r:Res} {l l':List Res} (h:Del l r l':=by repeat (first | exact Del.here | apply Del.next)):Del l r l':=h
theorem Rr {a:Option Addr} {k c sz:Nat} {xs:List Value} (hr:Rd m h a k c sz xs:=by first | assumption | exact Rd.ofSl (by assumption) | exact Rd.ofPt rfl (by decide) Me | exact Rd.mono (by assumption) (View.le.refl _) Sb | exact Rd.inRow Me (by assumption) (by assumption) (by assumption)):Rd m h a k c sz xs:=hr
theorem On {ys:List Value} (h:∀ u ∈ ys,u.oneCell'=true:=by first | exact b2l rfl | exact b45 (fun _=>rfl) _):∀ u ∈ ys,u.oneCell'=true:=h
theorem xG (hp:PO P ⟨some d,op,ty,pos,after,none⟩ n F h m v) (k:WL P ops Q n rest ((d,v)::F) h m) (hn:Nat.ble (d+1) n.num=true:=by exact rfl) :
 WL P ops Q n (⟨some d,op,ty,pos,after,none⟩::rest) F h m:=c2O hp (leB hn) k
theorem xM {t:Nat} (k:WL P ops Q n rest ((d,v)::F) h m) (h1:look F t=some v:=by exact rfl) (hn:Nat.ble (d+1) n.num=true:=by exact rfl) :
 WL P ops Q n (⟨some d,.move (.tmp t),ty,pos,after,none⟩::rest) F h m:=xG (PO.move (Ev.tmp h1)) k hn
theorem xK (k:WL P ops Q n rest ((d,v)::F) h m) (hn:Nat.ble (d+1) n.num=true:=by exact rfl) :
 WL P ops Q n (⟨some d,.move (.const v),ty,pos,after,none⟩::rest) F h m:=xG (PO.move Ev.const) k hn
theorem xA {t:Nat} (k:WL P ops Q n rest ((d,v)::F) h m) (h1:look F t=some v:=by exact rfl) (hn:Nat.ble (d+1) n.num=true:=by exact rfl) :
 WL P ops Q n (⟨some d,.assign (.tmp t),ty,pos,after,none⟩::rest) F h m:=xG (PO.assign (Ev.tmp h1)) k hn
theorem xC (k:WL P ops Q n rest ((d,v)::F) h m) (hn:Nat.ble (d+1) n.num=true:=by exact rfl) :
 WL P ops Q n (⟨some d,.assign (.const v),ty,pos,after,none⟩::rest) F h m:=xG (PO.assign Ev.const) k hn
theorem xE {t i:Nat} {vs:Array Value} (k:WL P ops Q n rest ((d,v)::F) h m) (h1:look F t=some (.tuple vs):=by exact rfl) (h2:vs[i]?=some v:=by exact rfl) (hn:Nat.ble (d+1) n.num=true:=by exact rfl) :
 WL P ops Q n (⟨some d,.extract (.tmp t) i,ty,pos,after,none⟩::rest) F h m:=xG (PO.extract (Ev.tmp h1) h2) k hn
theorem xP {t u:Nat} {c b:Bool} (k:WL P ops Q n rest ((d,.bool (c&&b))::F) h m) (h1:look F t=some (.bool c):=by exact rfl) (h2:look F u=some (gv c (.bool b)):=by exact rfl) (hn:Nat.ble (d+1) n.num=true:=by exact rfl) :
 WL P ops Q n (⟨some d,.pick (.tmp t) (.tmp u) (.const (.bool false)),ty,pos,after,none⟩::rest) F h m:=xG (a4t h1 h2) k hn
theorem xQ {t u:Nat} {c b:Bool} (k:WL P ops Q n rest ((d,.bool (c||b))::F) h m) (h1:look F t=some (.bool c):=by exact rfl) (h2:look F u=some (gv (!c) (.bool b)):=by exact rfl) (hn:Nat.ble (d+1) n.num=true:=by exact rfl) :
 WL P ops Q n (⟨some d,.pick (.tmp t) (.const (.bool true)) (.tmp u),ty,pos,after,none⟩::rest) F h m:=xG (a8S h1 h2) k hn
theorem xF {x:Operand} {t i:Nat} {fs:Array Field} {f:Field} {b off:Nat} (ht:P.underlying t=some (.struct fs)) (k:WL P ops Q n rest ((d,.pointer (some ⟨b,off+f.offset,none⟩))::F) h m) (hf:fs[i]?=some f:=by exact rfl) (hz:P.cellsOf f.type≠0:=by exact Nat.ne_of_beq_eq_false rfl)
 (ex:Ev n F x (.pointer (some ⟨b,off,none⟩)):=by exact Ev.tmp rfl) (hn:Nat.ble (d+1) n.num=true:=by exact rfl):WL P ops Q n (⟨some d,.fieldAddr t x i,ty,pos,after,none⟩::rest) F h m:=xG (PO.fieldAddr ht hf hz ex) k hn
theorem pL {x:Operand} {t:TypeId} {u:TypeDesc} {b off:Nat} {cs:List Value} {e:TypeId} {fz:Nat × Nat} (ht:P.underlying t=some u) (hp:L5 u=true:=by exact rfl)
 (ex:Ev n F x (.pointer (some ⟨b,off,none⟩)):=by exact Ev.tmp rfl) (hm:List.Mem (Res.pt b (.cells cs.toArray e fz)) h:=by repeat (first | exact b2R _ | apply b2Q)) (hv:cs[off]?=some v:=by exact rfl):PO P ⟨dst,.load t x,ty,pos,after,g⟩ n F h m v:=D0 ht hp ex hm hv
theorem pA {x:Operand} {t:TypeId} {u:TypeDesc} {b off:Nat} {cs:List Value} {e:TypeId} {fz:Nat × Nat} {vs:List Value} (ht:P.underlying t=some u) (hp:L5 u=false:=by exact rfl)
 (hq:(P.info? t).isSome=true:=by exact rfl) (ex:Ev n F x (.pointer (some ⟨b,off,none⟩)):=by exact Ev.tmp rfl) (hm:List.Mem (Res.pt b (.cells cs.toArray e fz)) h:=by repeat (first | exact b2R _ | apply b2Q)) (hv:seg cs off (P.cellsOf t)=some vs:=by exact rfl) :
 PO P ⟨dst,.load t x,ty,pos,after,g⟩ n F h m (.agg vs.toArray):=V3 ht hp hq ex hm hv
theorem pF {x:Operand} {t i:Nat} {fs:Array Field} {f:Field} {b off:Nat} (ht:P.underlying t=some (.struct fs)) (hf:fs[i]?=some f:=by exact rfl) (hz:P.cellsOf f.type≠0:=by exact Nat.ne_of_beq_eq_false rfl)
 (ex:Ev n F x (.pointer (some ⟨b,off,none⟩)):=by exact Ev.tmp rfl):PO P ⟨dst,.fieldAddr t x i,ty,pos,after,g⟩ n F h m (.pointer (some ⟨b,off+f.offset,none⟩)):=PO.fieldAddr ht hf hz ex
theorem xS {x y:Operand} {t:TypeId} {b off:Nat} {cs cs' vs:List Value} {e:TypeId} (k:WL P ops Q n rest F h' m) (ex:Ev n F x (.pointer (some ⟨b,off,none⟩)):=by exact Ev.tmp rfl) (ey:Ev n F y v:=by first | exact Ev.tmp rfl | exact Ev.const)
 (hvs:P6 v=some vs:=by exact rfl) (hq:(P.info? t).map (·.size)=some vs.length:=by exact rfl) (h1:vs.all (·.oneCell')=true:=by exact rfl) (h0:vs.isEmpty=false:=by exact rfl) 
 (u:Upd h (.pt b (.cells cs.toArray e (0,0))) (.pt b (.cells cs'.toArray e (0,0))) h':=by repeat (first | exact Upd.here | apply Upd.next)) (hc:a0m cs off vs=some cs':=by exact rfl) :
 WL P ops Q n (⟨none,.store t x y,ty,pos,after,none⟩::rest) F h m:=WL.store hq ex ey hvs h1 h0 hc u k
theorem xW {t:TypeId} {z:Value} {zs:List Value} (k:∀ b,WL P ops Q n rest ((d,.pointer (some ⟨b,0,none⟩))::F) (.pt b (.cells zs.toArray t (0,0))::h) m) (hz:(P.info? t).bind (·.zero)=some z:=by exact rfl) (hzs:P6 z=some zs:=by exact rfl) (hn:Nat.ble (d+1) n.num=true:=by exact rfl) :
 WL P ops Q n (⟨some d,.alloc t,ty,pos,after,none⟩::rest) F h m:=WL.alloc hz hzs (leB hn) k
theorem xX {x:Operand} {t:TypeId} {zs:List Value} (k:∀ b,WL P ops Q n rest ((d,.pointer (some ⟨b,0,none⟩))::F) (.pt b (.cells zs.toArray t (0,0))::h) m) (ex:Ev n F x v:=by exact Ev.tmp rfl) (hzs:P6 v=some zs:=by exact rfl) (hn:Nat.ble (d+1) n.num=true:=by exact rfl) :
 WL P ops Q n (⟨some d,.box t x,ty,pos,after,none⟩::rest) F h m:=WL.box ex hzs (leB hn) k
theorem xD {x y:Operand} {t e:TypeId} {sz by_ l cap k c l':Nat} {a b:Option Addr} {xs ys zs:List Value} {hq:Value->List Res} (E:EL P t e sz by_) (ex:Ev n F x (.slice a l cap)) (ey:Ev n F y (.slice b k c)) (hl:l+k=l') (hz:xs++ys=zs) (kk:∀ a' cap',WL P ops Q n rest ((d,.slice a' l' cap')::F) (hq (.slice a' l' cap')) m)
 (u:∀ v',Upd h (.row (.slice a l cap) e sz l xs) (.row v' e sz l' zs) (hq v'):=by intro v';repeat (first | exact Upd.here | apply Upd.next)) (rd:Rd m h b k c sz ys:=by first | assumption | exact Rd.ofSl (by assumption) | exact Rd.ofPt rfl (by decide) Me | exact Rd.mono (by assumption) (View.le.refl _) Sb | exact Rd.inRow Me (by assumption) (by assumption) (by assumption))
 (h1:∀ u ∈ ys,u.oneCell'=true:=by first | exact b2l rfl | exact b45 (fun _=>rfl) _) (h63:l'<=9223372036854775807:=by omega) (hbytes:l' * by_<=140737488355328:=by omega) (hn:Nat.ble (d+1) n.num=true:=by exact rfl) :
 WL P ops Q n (⟨some d,.call ⟨.builtin .append,#[x,y],#[t,t]⟩,ty,pos,after,none⟩::rest) F h m:=b2M E ex ey rd h1 hl hz h63 hbytes u (leB hn) kk
theorem xY {t e k:Nat} {sz by_:Nat} {ps:List (Nat × Operand)} {vs:List (Nat × Value)} {z:Value} {zs cs:List Value} (E:EL P t e sz by_) (ev:EvP n F ps vs)
 (kk:∀ b,WL P ops Q n rest ((d,.slice (some ⟨b,0,none⟩) k k)::F) (.pt b (.cells cs.toArray e (0,0))::h) m) (hz:(P.info? e).bind (·.zero)=some z:=by exact rfl)
 (hzs:a5O z k=some zs:=by exact rfl) (hf:a2J (fun i=>some (i * sz,sz)) zs vs=some cs:=by exact rfl) (hk:k * sz<=16777216:=by decide) (h0:Nat.beq (k * sz) 0=false:=by exact rfl) (hn:Nat.ble (d+1) n.num=true:=by exact rfl) :
 WL P ops Q n (⟨some d,.buildSlice t k ps.toArray,ty,pos,after,none⟩::rest) F h m:=WL.buildSlice E hz ev hzs hf hk h0 (leB hn) kk
theorem xf {args:List Operand} {tys:Array TypeId} {vs:List Value} {q:FuncId} (ea:Evs n F args vs) (c:CT P q vs h m (A3 h v)) (k:WL P ops Q n rest ((d,v)::F) h m) (hn:Nat.ble (d+1) n.num=true:=by exact rfl) :
 WL P ops Q n (⟨some d,.call ⟨.value (.func q),args.toArray,tys⟩,ty,pos,after,none⟩::rest) F h m:=M4 (first:=[]) (cap:=[]) Ev.func ea (by simpa using c) (leB hn) k
theorem xg {args:List Operand} {tys:Array TypeId} {vs:List Value} {q:FuncId} {R:Value->List Res->Prop} (ea:Evs n F args vs) (c:CT P q vs h m (fun v _ h'=>R v h')) (k:∀ v h',R v h'->WL P ops Q n rest ((d,v)::F) h' m) (hn:Nat.ble (d+1) n.num=true:=by exact rfl) :
 WL P ops Q n (⟨some d,.call ⟨.value (.func q),args.toArray,tys⟩,ty,pos,after,none⟩::rest) F h m:=F3 (first:=[]) (cap:=[]) Ev.func ea (by simpa using c) (leB hn) k
theorem zG {gd:Nat × Bool} {c:Bool} (hp:c=true->PO P ⟨some d,op,ty,pos,after,some gd⟩ n F h m v) (k:WL P ops Q n rest ((d,gv c v)::F) h m)
 (hg:GU ops n F gd c:=by first | exact GU.t rfl rfl | exact GU.f rfl rfl | exact X5 rfl rfl | exact a3p rfl rfl) (hn:Nat.ble (d+1) n.num=true:=by exact rfl) :
 WL P ops Q n (⟨some d,op,ty,pos,after,some gd⟩::rest) F h m:=F6 hg hp (leB hn) k
theorem zM {gd:Nat × Bool} {c:Bool} {t:Nat} (k:WL P ops Q n rest ((d,gv c v)::F) h m) (h1:look F t=some v:=by exact rfl)
 (hg:GU ops n F gd c:=by first | exact GU.t rfl rfl | exact GU.f rfl rfl | exact X5 rfl rfl | exact a3p rfl rfl) (hn:Nat.ble (d+1) n.num=true:=by exact rfl) :
 WL P ops Q n (⟨some d,.move (.tmp t),ty,pos,after,some gd⟩::rest) F h m:=F6 hg (fun _=>PO.move (Ev.tmp h1)) (leB hn) k
theorem zV {gd:Nat × Bool} {c:Bool} {t:Nat} (k:WL P ops Q n rest ((d,gv c v)::F) h m)
 (hg:GU ops n F gd c:=by first | exact GU.t rfl rfl | exact GU.f rfl rfl | exact X5 rfl rfl | exact a3p rfl rfl) (h1:look F t=some (gv c v):=by exact rfl) (hn:Nat.ble (d+1) n.num=true:=by exact rfl) :
 WL P ops Q n (⟨some d,.move (.tmp t),ty,pos,after,some gd⟩::rest) F h m:=F6 hg (fun hc=>PO.move (S7 h1 hc)) (leB hn) k
theorem zU {gd:Nat × Bool} (k:WL P ops Q n (⟨dst,op,ty,pos,after,none⟩::rest) F h m)
 (hg:GU ops n F gd true:=by first | exact GU.t rfl rfl | exact GU.f rfl rfl) :
 WL P ops Q n (⟨dst,op,ty,pos,after,some gd⟩::rest) F h m:=b6F hg rfl k
theorem kp (ts:List Nat) {F':Fm} {K:Act->World->Prop} {y:Code} (k:WC P y Q n F' h m) (hk:a2Y F ts=some F':=by exact rfl) (hK:∀ ds F h m,WC P y Q { n with ds:=ds } F h m->∀ a w,Fr { n with ds:=ds } F a->St m h w->K a w:=by first | exact KKh | assumption):∀ a w,Fr n F a->St m h w->K a w:=b1c hk (toK hK k)
theorem wn (ts:List Nat) {F':Fm} {K:Act->World->Prop} {y:Code} {Q':Exit->Act->World->Prop} (k:WC P y Q n F' h m) (hq:Q' .normal=K:=by exact rfl) (hk:a2Y F ts=some F':=by exact rfl) (hK:∀ ds F h m,WC P y Q { n with ds:=ds } F h m->∀ a w,Fr { n with ds:=ds } F a->St m h w->K a w:=by first | exact KKh | assumption) :
 WL P ops Q' n [] F h m:=WL.nil (hq ▸ b1c hk (toK hK k))
theorem wc {t:Nat} {x y:Code} {b:Bool} (kt:b=true->WC P x Q n F h m) (kf:b=false->WC P y Q n F h m) (h1:look F t=some (.bool b):=by exact rfl):WC P (.cond (.tmp t) x y) Q n F h m:=WC.cond (Ev.tmp h1) kt kf
theorem wR (hh:List Res) {fn:Func} {m0:View} {R:Value->View->List Res->Prop} {r:ResultVar} (hR:R v m hh) (hfn:fn.results=#[r]:=by exact rfl) (h1:RV P n F h m r v:=by exact RV.tmp rfl) (hle:m0.le m:=by exact View.le.refl _) (hd:hh.Sublist h:=by repeat (first | exact c3t _ | exact c3v _ _ | exact c2Q _ _ | refine c3w _ ?_ | apply c3b | refine c3s _ ?_)) (hds:n.ds=[]:=by exact rfl) :
 ∀ a w,Fr n F a->St m h w->bodyPost P fn (RQ m0 R) .ret a w:=a7p (.inl rfl) hfn h1 hle hd hR hds
theorem wV {l:List Oper} {b b':Bool} (e:b=b') (k:WL P ops Q n l ((d,.bool b')::F) h m):WL P ops Q n l ((d,.bool b)::F) h m:=e ▸ k
theorem sk {x y:Code} (k:∀ K:Act->World->Prop,(∀ ds F h m,WC P y Q { n with ds:=ds } F h m->∀ a w,Fr { n with ds:=ds } F a->St m h w->K a w)->WC P x (Exit.then K Q) n F h m):WC P (.seq x y) Q n F h m:=b9N k
theorem bk {id:Nat} {c:Code} (k:WC P c (Exit.inBlock id Q) n F h m):WC P (.block id c) Q n F h m:=WC.block k
theorem rg {id:Nat} {l:List Oper} {G:List (Option Nat)} (k:∀ ops:Array Oper,(∀ j t,G[j]?=some (some t)->a1O ops j=some t)->WL P ops Q n l F h m) (hG:a6W l=some G:=by exact rfl):WC P (.region id l.toArray false) Q n F h m:=a6Y hG k
theorem rn {id:Nat} {l:List Oper} {G:List (Option Nat)} (k:∀ ops:Array Oper,WL P ops Q n l F h m) (hG:a6W l=some G:=by exact rfl):WC P (.region id l.toArray false) Q n F h m:=a6Y hG fun o _=>k o
end
section
variable {P:Program} {ops:Array Oper} {Q:Exit->Act->World->Prop} {n:Cx} {F:Fm} {m:View} {eff:List Nat} {t:Tl} {hs hp:List Res} {i:Nat} {s:Tr}
variable {op:Op} {ty:TypeId} {pos:String} {after:Array Edge} {d:Nat} {v:Value}
theorem yG (ho:ops[i]?=some ⟨some d,op,ty,pos,after,none⟩) (p:PO P ⟨some d,op,ty,pos,after,none⟩ n F hs m v) (k:SR P ops Q n eff t hs s ((d,v)::F) hp m) (he:eff.contains i=false:=by exact rfl) (hn:Nat.ble (d+1) n.num=true:=by exact rfl) :
 SR P ops Q n eff t hs (.op i s) F hp m:=c2T ho he p (leB hn) k
theorem yf {args:List Operand} {tys:Array TypeId} {vs:List Value} {q:FuncId} (ho:ops[i]?=some ⟨some d,.call ⟨.value (.func q),args.toArray,tys⟩,ty,pos,after,none⟩) (ea:Evs n F args vs) (c:∀ fr,CT P q vs (fr++(hp++hs)) m (A3 (fr++(hp++hs)) v)) (k:SR P ops Q n eff t hs s ((d,v)::F) hp m)
 (he:eff.contains i=true:=by exact rfl) (hn:Nat.ble (d+1) n.num=true:=by exact rfl) :
 SR P ops Q n eff t hs (.op i s) F hp m:=b83 (first:=[]) (cap:=[]) ho he Ev.func ea (fun fr=>by simpa using c fr) (leB hn) k
end
section
variable {P:Program} {ops:Array Oper} {Q:Exit->Act->World->Prop} {n:Cx} {F:Fm} {h h':List Res} {m:View} {rest:List Oper}
def Pk (P:Program) (c:Code) (Q:Exit->Act->World->Prop) (n:Cx) (F:Fm) (h:List Res) (m:View) (G:Prop):Prop:=G->WC P c Q n F h m
theorem pkS {x y:Code} {G:(Act->World->Prop)->Prop} (p:∀ K:Act->World->Prop,Pk P x (Exit.then K Q) n F h m (G K)) :
 Pk P (.seq x y) Q n F h m (∀ K:Act->World->Prop,(∀ ds F h m,WC P y Q { n with ds:=ds } F h m->∀ a w,Fr { n with ds:=ds } F a->St m h w->K a w)->G K):=fun g=>sk fun K hK=>p K (g K hK)
theorem pkB {id:Nat} {c:Code} {G:Prop} (p:Pk P c (Exit.inBlock id Q) n F h m G):Pk P (.block id c) Q n F h m G:=fun g=>bk (p g)
theorem pkR {id:Nat} {l:List Oper} {G:List (Option Nat)} (hG:a6W l=some G:=by exact rfl):Pk P (.region id l.toArray false) Q n F h m (∀ ops:Array Oper,WL P ops Q n l F h m):=fun g=>rn g hG
theorem pkG {id:Nat} {l:List Oper} {G:List (Option Nat)} (hG:a6W l=some G:=by exact rfl):Pk P (.region id l.toArray false) Q n F h m (∀ ops:Array Oper,(∀ j t,G[j]?=some (some t)->a1O ops j=some t)->WL P ops Q n l F h m):=fun g=>rg g hG
theorem pkE {c:Code}:Pk P c Q n F h m (WC P c Q n F h m):=id
theorem gD {c:Code} {G:Prop} (k:G) (p:Pk P c Q n F h m G:=by (repeat first | (apply pkS;intro _) | apply pkB);first | exact pkR | exact pkE):WC P c Q n F h m:=p k
theorem gE {c:Code} {G:Prop} (k:G) (p:Pk P c Q n F h m G:=by (repeat first | (apply pkS;intro _) | apply pkB);exact pkE):WC P c Q n F h m:=p k
theorem gG {c:Code} {G:Prop} (k:G) (p:Pk P c Q n F h m G:=by (repeat first | (apply pkS;intro _) | apply pkB);exact pkG):WC P c Q n F h m:=p k
theorem Su {F F':Fm} (q:Sub F F':=by (repeat (first | exact Sub.nil | refine Sub.cons rfl ?_ | refine Sub.consE rfl (by simp;done) ?_))):Sub F F':=q
theorem dS {id:Nat} {l:List Oper} (eff:List Nat) (s:Tr) (t:List Nat) (hm:P.follows .mixedOrders=true) {hs:List Res} (k:SR P l.toArray Q n eff ⟨t,[]⟩ hs s F [] m) (hQ:∀ c a w d v,Q (.panic c) (a.put (some d) v) w->Q (.panic c) a w:=by exact fun _ _ _ _ _ h=>h) (ok:(!eff.contains 4096&&a2l l.toArray eff s [] t [])=true:=by kernel_rfl) :
 WC P (.region id l.toArray true) Q n F ([]++hs) m:=F2 eff s t hs [] hm hQ [] ok k
theorem Lb {a b:Nat} (h:Nat.ble a b=true:=by exact rfl):a<=b:=leB h
section
variable {op:BinOp} {kk:IntKind} {i j:Int} {v:Value} {t t':TypeId} {pos:String} {after:Array Edge} {ty:TypeId} {d x y:Nat}
theorem bB (k:WL P ops Q n rest ((d,v)::F) h m) (e1:look F x=some (.int kk i):=by exact rfl) (hv:iop op kk i j=some v:=by exact rfl) (hn:Nat.ble (d+1) n.num=true:=by exact rfl) :
 WL P ops Q n (⟨some d,.binOp op t (.tmp x) (.const (.int kk j)) t',ty,pos,after,none⟩::rest) F h m:=xG (O0 (Ev.tmp e1) Ev.const hv) k hn
theorem bD (k:WL P ops Q n rest ((d,v)::F) h m) (e1:look F x=some (.int kk i):=by exact rfl) (e2:look F y=some (.int kk j):=by exact rfl) (hv:iop op kk i j=some v:=by exact rfl) (hn:Nat.ble (d+1) n.num=true:=by exact rfl) :
 WL P ops Q n (⟨some d,.binOp op t (.tmp x) (.tmp y) t',ty,pos,after,none⟩::rest) F h m:=xG (O0 (Ev.tmp e1) (Ev.tmp e2) hv) k hn
theorem bI (k:WL P ops Q n rest ((d,.int .i64 (i+j))::F) h m) (e1:look F x=some (.int .i64 i):=by exact rfl) (h1:-9223372036854775808<=i+j/\i+j<=9223372036854775807:=by omega) (hn:Nat.ble (d+1) n.num=true:=by exact rfl) :
 WL P ops Q n (⟨some d,.binOp .add t (.tmp x) (.const (.int .i64 j)) t',ty,pos,after,none⟩::rest) F h m:=xG (M2 (Ev.tmp e1) Ev.const h1) k hn
end
theorem dF {p:Prop} [Decidable p] (q:decide p=false):¬p:=of_decide_eq_false q
theorem dT {p:Prop} [Decidable p] (q:decide p=true):p:=of_decide_eq_true q
end
section
variable {P:Program} {ops:Array Oper} {Q Q':Exit->Act->World->Prop} {n:Cx} {F F':Fm} {h h':List Res} {m:View} {rest:List Oper} {y:Code} {ts:List Nat} {id:Nat} {W G:Prop}
class Ud (P:Program) (t:TypeId) (u:outParam TypeDesc):Prop where h:P.underlying t=some u
class Es (P:Program) (t:TypeId) (e:outParam TypeId) (sz b:outParam Nat):Prop where h:EL P t e sz b
class Ln {α:Type} (e:α->List Value) (sz:outParam Nat):Prop where
 h:∀ x,(e x).length=sz
 p:0 < sz
theorem UU {t:TypeId} {u:TypeDesc} [i:Ud P t u]:P.underlying t=some u:=i.h
theorem LL {α:Type} {e:α->List Value} {sz:Nat} [i:Ln e sz]:∀ x,(e x).length=sz:=i.h
section
variable {α:Type} {e:α->List Value} {x:Operand} {t:TypeId} {u:TypeDesc} {a:Option Addr} {len cap q sz o:Nat} {l:List α} {z:α} {v:Value} {vs:List Value} {dst:Option Nat} {ty:TypeId} {pos:String} {after:Array Edge} {g:Option (Nat × Bool)}
theorem pX [E:Ln e 1] (ht:P.underlying t=some u) (hp:L5 u=true) (ex:Ev n F x (.pointer (elt a (q * 1)))) (hs:Rd m h a len cap 1 (fl e l)) (hx:l[q]?=some z) (hv:e z=[v]):PO P ⟨dst,.load t x,ty,pos,after,g⟩ n F h m v:=b5B ht hp E.h hs ex hx hv
theorem pY [E:Ln e sz] (ht:P.underlying t=some u) (hp:L5 u=false) (hq:(P.info? t).isSome=true) (ex:Ev n F x (.pointer (elt a (q * sz)))) (hs:Rd m h a len cap sz (fl e l)) (hx:l[q]?=some z) (hv:e z=vs) (hl:P.cellsOf t=vs.length) (h0:0 < vs.length):PO P ⟨dst,.load t x,ty,pos,after,g⟩ n F h m (.agg vs.toArray):=a3E ht hp hq E.h hs ex hx hv hl h0
theorem pZ [E:Ln e sz] (ht:P.underlying t=some u) (hp:L5 u=true) (ex:Ev n F x (.pointer (elt a (q * sz+o)))) (hs:Rd m h a len cap sz (fl e l)) (hx:l[q]?=some z) (hv:(e z)[o]?=some v):PO P ⟨dst,.load t x,ty,pos,after,g⟩ n F h m v:=H5 ht hp E.h hs ex hx hv
end
theorem pE {α:Type} {e:α->List Value} {l:List α} {q:Nat} {z:α} {x:Operand} {t i o len cap sz:Nat} {fs:Array Field} {f:Field} {a:Option Addr} {dst:Option Nat} {ty:TypeId} {pos:String} {after:Array Edge} {g:Option (Nat × Bool)} [E:Ln e sz] (ht:P.underlying t=some (.struct fs)) (hf:fs[i]?=some f) (hz:P.cellsOf f.type≠0) (hs:Rd m h a len cap sz (fl e l)) (hx:l[q]?=some z) (ex:Ev n F x (.pointer (elt a o))) :
 PO P ⟨dst,.fieldAddr t x i,ty,pos,after,g⟩ n F h m (.pointer (elt a (o+f.offset))):=H4 ht hf hz E.h E.p hs hx ex
theorem pI {x i:Operand} {t e:TypeId} {a:Option Addr} {len cap sz q b:Nat} {k:IntKind} {j:Int} {xs:List Value} {dst:Option Nat} {ty:TypeId} {pos:String} {after:Array Edge} {g:Option (Nat × Bool)} [E:Es P t e sz b] (ex:Ev n F x (.slice a len cap)) (ei:Ev n F i (.int k j)) (hs:Rd m h a len cap sz xs) (hj:j=(q:Int)) (hq:q < len) :
 PO P ⟨dst,.indexAddr t x i,ty,pos,after,g⟩ n F h m (.pointer (elt a (q * sz))):=G1 E.h.und E.h.size E.h.posz ex ei hs hj hq
structure Tg (ts:List Nat):Prop
theorem sq {x:Code} (k:WC P x (Exit.then (KK P y Q n.ro) Q) n F h m):WC P (.seq x y) Q n F h m:=WC.seq k
theorem rq {l:List Oper} (k:WL P l.toArray Q n l F h m) (hG:l.all Y4=true:=by exact rfl):WC P (.region id l.toArray false) Q n F h m:=.mk fun a w ha hs=>a9e (by simpa using hG) (k.e a w ha hs)
theorem wnT (_:Tg ts) (k:WC P y Q n F' h m) (hq:Q' .normal=KK P y Q n.ro:=by exact rfl) (hk:a2Y F ts=some F':=by exact rfl):WL P ops Q' n [] F h m:=WL.nil (hq ▸ b1c hk k.e)
theorem skT (_:Tg ts) (k:WC P y Q n F' h m) (hq:Q' .normal=KK P y Q n.ro:=by exact rfl) (hk:a2Y F ts=some F':=by exact rfl):WC P .skip Q' n F h m:=WC.skip (hq ▸ b1c hk k.e)
theorem exT (_:Tg ts) (k:WC P y Q n F' h m) (hq:Q' (.exit id)=KK P y Q n.ro:=by exact rfl) (hk:a2Y F ts=some F':=by exact rfl):WC P (.exit id) Q' n F h m:=WC.exit (hq ▸ b1c hk k.e)
structure Hd (G:Prop):Prop where g:G
theorem j0 (k:G) (p:Hd G->W:=by intro g;(repeat first | refine sq ?_ | refine bk ?_);first | exact rq g.g | exact g.g):W:=p ⟨k⟩
theorem jS (k:G) (p:Hd G->W:=by intro g;(repeat refine sq ?_);exact g.g):W:=p ⟨k⟩
theorem jE (k:G) (p:Hd G->W:=by intro g;(repeat first | refine sq ?_ | refine bk ?_);exact g.g):W:=p ⟨k⟩
theorem cb {f:FuncId} {args:List Value} {R:Value->View->List Res->Prop} {fn:Func} {c:Code} {F0:Fm} {N:Nat} (k:WC P c (bodyPost P fn (RQ m R)) ⟨N,none,[]⟩ F0 h m) (he:∀ as w,(callFunc f as).run P w=.ok (.enter f as) w:=by exact fun _ _=>rfl) (hf:P.funcs[f]?=some fn:=by exact rfl) (hb:fn.body=some c:=by exact rfl) (hN:fn.ntmps=N:=by exact rfl) (hl:Nat.ble args.length N=true:=by exact rfl) (hF:a4d 0 args=some F0:=by exact rfl):CT P f args h m R:=CT.body he hf hb hN (leB hl) hF k
theorem Eb {ps:List (Nat × Operand)} {vs:List (Nat × Value)} (h:EvP n F ps vs:=by (repeat (apply EvP.cons;first | exact Ev.const | exact Et));exact EvP.nil):EvP n F ps vs:=h
theorem jw (k:G) (p:Hd G->W:=by intro g;(first | (show WL _ _ _ _ (⟨_,.move _,_,_,_,none⟩::_) _ _ _;first | refine xM ?_ | refine xK ?_) | (show WL _ _ _ _ (⟨_,.assign _,_,_,_,none⟩::_) _ _ _;first | refine xA ?_ | refine xC ?_) | (show WL _ _ _ _ (⟨_,.fieldAddr _ _ _,_,_,_,none⟩::_) _ _ _;first | refine xF UU ?_ | refine xG (pE UU rfl (Nat.ne_of_beq_eq_false rfl) Rr (by assumption) (Ev.tmp rfl)) ?_) | (show WL _ _ _ _ (⟨_,.load _ _,_,_,_,none⟩::_) _ _ _;first | refine xG (pL UU) ?_ | refine xG (pA UU) ?_ | refine xG (pZ UU rfl (by exact Ev.tmp rfl) Rr (by assumption) (by exact rfl)) ?_ | refine xG (pX UU rfl (by exact Ev.tmp rfl) Rr (by assumption) (by exact rfl)) ?_ | refine xG (pY UU rfl rfl (by exact Ev.tmp rfl) Rr (by assumption) (by exact rfl) (by exact rfl) (by exact Nat.succ_pos _)) ?_) | (show WL _ _ _ _ (⟨_,.store _ _ _,_,_,_,none⟩::_) _ _ _;refine xS ?_) | (show WL _ _ _ _ (⟨_,.binOp _ _ _ _ _,_,_,_,none⟩::_) _ _ _;first | refine bI ?_ | refine bB ?_ | refine bD ?_) | (show WL _ _ _ _ (⟨_,.pick _ _ _,_,_,_,none⟩::_) _ _ _;first | refine xP ?_ | refine xQ ?_) | (show WL _ _ _ _ (⟨_,.extract _ _,_,_,_,none⟩::_) _ _ _;refine xE ?_) | (show WL _ _ _ _ (⟨_,.call _,_,_,_,none⟩::_) _ _ _;refine xG (S4 UU Et) ?_) | (show WL _ _ _ _ (⟨_,.unOp _ _ _,_,_,_,none⟩::_) _ _ _;refine xG (PO.not Et) ?_) | (show WL _ _ _ _ (⟨_,.build _ _,_,_,_,none⟩::_) _ _ _;refine xG (PO.build UU rfl rfl rfl Eb (by exact rfl)) ?_) | (show WL _ _ _ _ (⟨_,.indexAddr _ _ _,_,_,_,none⟩::_) _ _ _;refine xG (pI (Ev.tmp rfl) (Ev.tmp rfl) Rr rfl (by omega)) ?_) | (show WL _ _ _ _ (⟨_,.nilCheck _,_,_,_,none⟩::_) _ _ _;refine xG (PO.nilCheck Et) ?_));exact g.g):W:=p ⟨k⟩
theorem jg (k:G) (p:Hd G->W:=by intro g;(first | (show WL _ _ _ _ (⟨_,.move _,_,_,_,some _⟩::_) _ _ _;first | refine zV ?_ | refine zM ?_) | (show WL _ _ _ _ (⟨_,.fieldAddr _ _ _,_,_,_,some _⟩::_) _ _ _;first | refine zG (fun _=>pF UU) ?_ | refine zG (fun hc=>PO.fieldAddr UU rfl (Nat.ne_of_beq_eq_false rfl) (Eg hc)) ?_) | (show WL _ _ _ _ (⟨_,.load _ _,_,_,_,some _⟩::_) _ _ _;first | refine zG (fun hc=>D0 UU rfl (Eg hc) Me rfl) ?_ | refine zG (fun hc=>V3 UU rfl rfl (Eg hc) Me rfl) ?_) | (show WL _ _ _ _ (⟨_,.call _,_,_,_,some _⟩::_) _ _ _;refine zG (fun hc=>S4 UU (Eg hc)) ?_) | (show WL _ _ _ _ (⟨_,.binOp _ _ _ _ _,_,_,_,some _⟩::_) _ _ _;first | refine zG (fun hc=>O0 (Eg hc) Ev.const rfl) ?_ | refine zG (fun hc=>O0 (Eg hc) (Eg hc) rfl) ?_) | (show WL _ _ _ _ (⟨_,.unOp _ _ _,_,_,_,some _⟩::_) _ _ _;refine zG (fun hc=>PO.not (Eg hc)) ?_));exact g.g):W:=p ⟨k⟩
theorem yY {eff:List Nat} {t:Tl} {hs hp:List Res} {i:Nat} {s:Tr} {o:Oper} (k:ops[i]?=some o->SR P ops Q n eff t hs (.op i s) F hp m) (ho:ops[i]?=some o:=by exact rfl):SR P ops Q n eff t hs (.op i s) F hp m:=k ho
theorem jy (k:G) (p:Hd G->W:=by intro g;(first | (show(_:Option Oper)=some ⟨_,.move _,_,_,_,none⟩->_;refine fun e=>yG e (PO.move Et) ?_) | (show(_:Option Oper)=some ⟨_,.fieldAddr _ _ _,_,_,_,none⟩->_;first | refine fun e=>yG e (pF UU) ?_ | refine fun e=>yG e (pE UU rfl (Nat.ne_of_beq_eq_false rfl) Rr (by assumption) (Ev.tmp rfl)) ?_) | (show(_:Option Oper)=some ⟨_,.load _ _,_,_,_,none⟩->_;first | refine fun e=>yG e (pL UU) ?_ | refine fun e=>yG e (pA UU) ?_ | refine fun e=>yG e (pZ UU rfl (by exact Ev.tmp rfl) Rr (by assumption) (by exact rfl)) ?_ | refine fun e=>yG e (pX UU rfl (by exact Ev.tmp rfl) Rr (by assumption) (by exact rfl)) ?_ | refine fun e=>yG e (pY UU rfl rfl (by exact Ev.tmp rfl) Rr (by assumption) (by exact rfl) (by exact rfl) (by exact Nat.succ_pos _)) ?_) | (show(_:Option Oper)=some ⟨_,.pick _ _ _,_,_,_,none⟩->_;refine fun e=>yG e (a4t rfl rfl) ?_) | (show(_:Option Oper)=some ⟨_,.indexAddr _ _ _,_,_,_,none⟩->_;refine fun e=>yG e (pI (Ev.tmp rfl) (Ev.tmp rfl) Rr rfl (by omega)) ?_) | (show(_:Option Oper)=some ⟨_,.nilCheck _,_,_,_,none⟩->_;refine fun e=>yG e (PO.nilCheck Et) ?_));exact g.g):W:=p ⟨k⟩
theorem jz (k:G) (p:Hd G->W:=by intro g;(first | (show(_:Option Oper)=some ⟨_,.fieldAddr _ _ _,_,_,_,some _⟩->_;refine fun e=>B6 e rfl (GU.t rfl rfl) (fun hc=>PO.fieldAddr UU rfl (Nat.ne_of_beq_eq_false rfl) Et) Lb ?_) | (show(_:Option Oper)=some ⟨_,.load _ _,_,_,_,some _⟩->_;first | refine fun e=>B6 e rfl (GU.t rfl rfl) (fun hc=>D0 UU rfl (Eg hc) Me rfl) Lb ?_ | refine fun e=>B6 e rfl (GU.t rfl rfl) (fun hc=>V3 UU rfl rfl (Eg hc) Me rfl) Lb ?_));exact g.g):W:=p ⟨k⟩
theorem j1 (k:G) (p:Hd G->W:=by intro g;first | (show WL _ _ _ _ (⟨_,_,_,_,_,none⟩::_) _ _ _;exact jw g.g) | (show WL _ _ _ _ (⟨_,_,_,_,_,some _⟩::_) _ _ _;exact jg g.g) | (refine yY ?_;first | (show(_:Option Oper)=some ⟨_,_,_,_,_,none⟩->_;exact jy g.g) | (show(_:Option Oper)=some ⟨_,_,_,_,_,some _⟩->_;exact jz g.g))):W:=p ⟨k⟩
theorem kQ0 (ts:List Nat) (k:G) (p:Tg ts->Hd G->W:=by
 intro t g;refine j0 ?_
 first | refine wnT t ?_ | refine skT t ?_ | refine exT t ?_
 exact j0 g.g):W:=p ⟨⟩ ⟨k⟩
theorem kP0 (ts:List Nat) (k:G) (p:Tg ts->Hd G->W:=by
 intro t g;refine j0 ?_
 first | refine wnT t ?_ | refine skT t ?_ | refine exT t ?_
 exact jS g.g):W:=p ⟨⟩ ⟨k⟩
theorem kA1 (k:G) (p:Hd G->W:=by
 intro g;refine j0 ?_
 refine j1 ?_;exact g.g):W:=p ⟨k⟩
theorem kQ1 (ts:List Nat) (k:G) (p:Tg ts->Hd G->W:=by
 intro t g;refine j0 ?_
 refine j1 ?_;first | refine wnT t ?_ | refine skT t ?_ | refine exT t ?_
 exact j0 g.g):W:=p ⟨⟩ ⟨k⟩
theorem kP1 (ts:List Nat) (k:G) (p:Tg ts->Hd G->W:=by
 intro t g;refine j0 ?_
 refine j1 ?_;first | refine wnT t ?_ | refine skT t ?_ | refine exT t ?_
 exact jS g.g):W:=p ⟨⟩ ⟨k⟩
theorem kA2 (k:G) (p:Hd G->W:=by
 intro g;refine j0 ?_
 iterate 2 refine j1 ?_
 exact g.g):W:=p ⟨k⟩
theorem kQ2 (ts:List Nat) (k:G) (p:Tg ts->Hd G->W:=by
 intro t g;refine j0 ?_
 iterate 2 refine j1 ?_
 first | refine wnT t ?_ | refine skT t ?_ | refine exT t ?_
 exact j0 g.g):W:=p ⟨⟩ ⟨k⟩
theorem kP2 (ts:List Nat) (k:G) (p:Tg ts->Hd G->W:=by
 intro t g;refine j0 ?_
 iterate 2 refine j1 ?_
 first | refine wnT t ?_ | refine skT t ?_ | refine exT t ?_
 exact jS g.g):W:=p ⟨⟩ ⟨k⟩
theorem kA3 (k:G) (p:Hd G->W:=by
 intro g;refine j0 ?_
 iterate 3 refine j1 ?_
 exact g.g):W:=p ⟨k⟩
theorem kQ3 (ts:List Nat) (k:G) (p:Tg ts->Hd G->W:=by
 intro t g;refine j0 ?_
 iterate 3 refine j1 ?_
 first | refine wnT t ?_ | refine skT t ?_ | refine exT t ?_
 exact j0 g.g):W:=p ⟨⟩ ⟨k⟩
theorem kP3 (ts:List Nat) (k:G) (p:Tg ts->Hd G->W:=by
 intro t g;refine j0 ?_
 iterate 3 refine j1 ?_
 first | refine wnT t ?_ | refine skT t ?_ | refine exT t ?_
 exact jS g.g):W:=p ⟨⟩ ⟨k⟩
theorem kA4 (k:G) (p:Hd G->W:=by
 intro g;refine j0 ?_
 iterate 4 refine j1 ?_
 exact g.g):W:=p ⟨k⟩
theorem kQ4 (ts:List Nat) (k:G) (p:Tg ts->Hd G->W:=by
 intro t g;refine j0 ?_
 iterate 4 refine j1 ?_
 first | refine wnT t ?_ | refine skT t ?_ | refine exT t ?_
 exact j0 g.g):W:=p ⟨⟩ ⟨k⟩
theorem kP4 (ts:List Nat) (k:G) (p:Tg ts->Hd G->W:=by
 intro t g;refine j0 ?_
 iterate 4 refine j1 ?_
 first | refine wnT t ?_ | refine skT t ?_ | refine exT t ?_
 exact jS g.g):W:=p ⟨⟩ ⟨k⟩
theorem kA5 (k:G) (p:Hd G->W:=by
 intro g;refine j0 ?_
 iterate 5 refine j1 ?_
 exact g.g):W:=p ⟨k⟩
theorem kQ5 (ts:List Nat) (k:G) (p:Tg ts->Hd G->W:=by
 intro t g;refine j0 ?_
 iterate 5 refine j1 ?_
 first | refine wnT t ?_ | refine skT t ?_ | refine exT t ?_
 exact j0 g.g):W:=p ⟨⟩ ⟨k⟩
theorem kP5 (ts:List Nat) (k:G) (p:Tg ts->Hd G->W:=by
 intro t g;refine j0 ?_
 iterate 5 refine j1 ?_
 first | refine wnT t ?_ | refine skT t ?_ | refine exT t ?_
 exact jS g.g):W:=p ⟨⟩ ⟨k⟩
theorem kA6 (k:G) (p:Hd G->W:=by
 intro g;refine j0 ?_
 iterate 6 refine j1 ?_
 exact g.g):W:=p ⟨k⟩
theorem kQ6 (ts:List Nat) (k:G) (p:Tg ts->Hd G->W:=by
 intro t g;refine j0 ?_
 iterate 6 refine j1 ?_
 first | refine wnT t ?_ | refine skT t ?_ | refine exT t ?_
 exact j0 g.g):W:=p ⟨⟩ ⟨k⟩
theorem kP6 (ts:List Nat) (k:G) (p:Tg ts->Hd G->W:=by
 intro t g;refine j0 ?_
 iterate 6 refine j1 ?_
 first | refine wnT t ?_ | refine skT t ?_ | refine exT t ?_
 exact jS g.g):W:=p ⟨⟩ ⟨k⟩
theorem kA7 (k:G) (p:Hd G->W:=by
 intro g;refine j0 ?_
 iterate 7 refine j1 ?_
 exact g.g):W:=p ⟨k⟩
theorem kQ7 (ts:List Nat) (k:G) (p:Tg ts->Hd G->W:=by
 intro t g;refine j0 ?_
 iterate 7 refine j1 ?_
 first | refine wnT t ?_ | refine skT t ?_ | refine exT t ?_
 exact j0 g.g):W:=p ⟨⟩ ⟨k⟩
theorem kP7 (ts:List Nat) (k:G) (p:Tg ts->Hd G->W:=by
 intro t g;refine j0 ?_
 iterate 7 refine j1 ?_
 first | refine wnT t ?_ | refine skT t ?_ | refine exT t ?_
 exact jS g.g):W:=p ⟨⟩ ⟨k⟩
theorem kA8 (k:G) (p:Hd G->W:=by
 intro g;refine j0 ?_
 iterate 8 refine j1 ?_
 exact g.g):W:=p ⟨k⟩
theorem kQ8 (ts:List Nat) (k:G) (p:Tg ts->Hd G->W:=by
 intro t g;refine j0 ?_
 iterate 8 refine j1 ?_
 first | refine wnT t ?_ | refine skT t ?_ | refine exT t ?_
 exact j0 g.g):W:=p ⟨⟩ ⟨k⟩
theorem kP8 (ts:List Nat) (k:G) (p:Tg ts->Hd G->W:=by
 intro t g;refine j0 ?_
 iterate 8 refine j1 ?_
 first | refine wnT t ?_ | refine skT t ?_ | refine exT t ?_
 exact jS g.g):W:=p ⟨⟩ ⟨k⟩
theorem kA9 (k:G) (p:Hd G->W:=by
 intro g;refine j0 ?_
 iterate 9 refine j1 ?_
 exact g.g):W:=p ⟨k⟩
theorem kQ9 (ts:List Nat) (k:G) (p:Tg ts->Hd G->W:=by
 intro t g;refine j0 ?_
 iterate 9 refine j1 ?_
 first | refine wnT t ?_ | refine skT t ?_ | refine exT t ?_
 exact j0 g.g):W:=p ⟨⟩ ⟨k⟩
theorem kP9 (ts:List Nat) (k:G) (p:Tg ts->Hd G->W:=by
 intro t g;refine j0 ?_
 iterate 9 refine j1 ?_
 first | refine wnT t ?_ | refine skT t ?_ | refine exT t ?_
 exact jS g.g):W:=p ⟨⟩ ⟨k⟩
theorem a9N (k:G) (p:Hd G->W:=by
 intro g;refine j0 ?_
 iterate 10 refine j1 ?_
 exact g.g):W:=p ⟨k⟩
theorem b8T (ts:List Nat) (k:G) (p:Tg ts->Hd G->W:=by
 intro t g;refine j0 ?_
 iterate 10 refine j1 ?_
 first | refine wnT t ?_ | refine skT t ?_ | refine exT t ?_
 exact j0 g.g):W:=p ⟨⟩ ⟨k⟩
theorem c4D (ts:List Nat) (k:G) (p:Tg ts->Hd G->W:=by
 intro t g;refine j0 ?_
 iterate 10 refine j1 ?_
 first | refine wnT t ?_ | refine skT t ?_ | refine exT t ?_
 exact jS g.g):W:=p ⟨⟩ ⟨k⟩
theorem c4x (k:G) (p:Hd G->W:=by
 intro g;refine j0 ?_
 iterate 11 refine j1 ?_
 exact g.g):W:=p ⟨k⟩
theorem c0H (ts:List Nat) (k:G) (p:Tg ts->Hd G->W:=by
 intro t g;refine j0 ?_
 iterate 11 refine j1 ?_
 first | refine wnT t ?_ | refine skT t ?_ | refine exT t ?_
 exact j0 g.g):W:=p ⟨⟩ ⟨k⟩
theorem c4B (ts:List Nat) (k:G) (p:Tg ts->Hd G->W:=by
 intro t g;refine j0 ?_
 iterate 11 refine j1 ?_
 first | refine wnT t ?_ | refine skT t ?_ | refine exT t ?_
 exact jS g.g):W:=p ⟨⟩ ⟨k⟩
theorem a6M (k:G) (p:Hd G->W:=by
 intro g;refine j0 ?_
 iterate 12 refine j1 ?_
 exact g.g):W:=p ⟨k⟩
theorem c4F (ts:List Nat) (k:G) (p:Tg ts->Hd G->W:=by
 intro t g;refine j0 ?_
 iterate 12 refine j1 ?_
 first | refine wnT t ?_ | refine skT t ?_ | refine exT t ?_
 exact j0 g.g):W:=p ⟨⟩ ⟨k⟩
theorem c4C (ts:List Nat) (k:G) (p:Tg ts->Hd G->W:=by
 intro t g;refine j0 ?_
 iterate 12 refine j1 ?_
 first | refine wnT t ?_ | refine skT t ?_ | refine exT t ?_
 exact jS g.g):W:=p ⟨⟩ ⟨k⟩
end
section
variable {P:Program} {ops:Array Oper} {Q:Exit->Act->World->Prop} {n:Cx} {F:Fm} {h h' hh:List Res} {m m0:View} {rest:List Oper} {v v2:Value} {r r2:ResultVar} {fn:Func}
theorem Ek {w:Value}:Ev n F (.const w) w:=Ev.const
theorem Ef {q:FuncId}:Ev n F (.func q) (.func (.func q) #[] #[]):=Ev.func
theorem Vl:m.le m:=View.le.refl m
theorem cA {p t:Nat} {u:TypeDesc} {b off:Nat} {cs:List Value} {e:TypeId} {fz:Nat × Nat} {vs:List Value} (ht:P.underlying t=some u) (hp:L5 u=false:=by exact rfl) (hq:(P.info? t).isSome=true:=by exact rfl) (hl:look F p=some (.pointer (some ⟨b,off,none⟩)):=by exact rfl)
 (hm:Res.pt b (.cells cs.toArray e fz) ∈ h:=by exact Me) (hv:seg cs off (P.cellsOf t)=some vs:=by exact rfl):RV P n F h m (.cell p t) (.agg vs.toArray):=I1 ht hp hq hl hm hv
theorem wT (hh:List Res) {R:Value->View->List Res->Prop} (hR:R v m hh) (hQ:Q .ret=bodyPost P fn (RQ m0 R) .ret:=by exact rfl) (hfn:fn.results=#[r]:=by exact rfl) (h1:RV P n F h m r v:=by exact RV.tmp rfl) (hle:m0.le m:=by exact View.le.refl _) (hd:hh.Sublist h:=by exact Sb) (hds:n.ds=[]:=by exact rfl) :
 WC P .ret Q n F h m:=WC.ret (by rw[hQ];exact a7p (h':=hh) (.inl rfl) hfn h1 hle hd hR hds)
theorem xT (hh:List Res) {R:Value->View->List Res->Prop} {X:Value->List Res->Prop} (hR:R v m hh) (hQ:Q .ret=bodyPost P fn (RX m0 R X) .ret:=by exact rfl) (hfn:fn.results=#[r]:=by exact rfl) (h1:RV P n F h m r v:=by exact RV.tmp rfl) (hle:m0.le m:=by exact View.le.refl _) (hd:hh.Sublist h:=by exact Sb) (hds:n.ds=[]:=by exact rfl) :
 WC P .ret Q n F h m:=WC.ret (by rw[hQ];exact toX (.inl rfl) (a7p (h':=hh) (.inl rfl) hfn h1 hle hd hR hds))
theorem w2 (hh:List Res) {R:Value->View->List Res->Prop} (hR:R (.tuple #[v,v2]) m hh) (hQ:Q .ret=bodyPost P fn (RQ m0 R) .ret:=by exact rfl) (hfn:fn.results=#[r,r2]:=by exact rfl) (h1:RV P n F h m r v:=by exact RV.tmp rfl) (h2:RV P n F h m r2 v2:=by exact RV.tmp rfl) (hle:m0.le m:=by exact View.le.refl _) (hd:hh.Sublist h:=by exact Sb) (hds:n.ds=[]:=by exact rfl) :
 WC P .ret Q n F h m:=WC.ret (by rw[hQ];exact b5O (h':=hh) (.inl rfl) hfn h1 h2 hle hd hR hds)
theorem w0 (hh:List Res) {R:Value->View->List Res->Prop} (hR:R (.tuple #[]) m hh) (hfn:fn.results=#[]:=by exact rfl) (hle:m0.le m:=by exact View.le.refl _) (hd:hh.Sublist h:=by exact Sb) (hds:n.ds=[]:=by exact rfl) :
 ∀ a w,Fr n F a->St m h w->bodyPost P fn (RQ m0 R) .normal a w:=a9h (h':=hh) (.inr rfl) hfn hle hd hR hds
theorem sB {eff:List Nat} {t':Tl} {hs hp:List Res} {q d:Nat} {s:Tr} {t e k:Nat} {sz by_:Nat} {ps:List (Nat × Operand)} {vs:List (Nat × Value)} {z:Value} {zs cs:List Value} {ty:TypeId} {pos:String} {after:Array Edge}
 (ho:ops[q]?=some ⟨some d,.buildSlice t k ps.toArray,ty,pos,after,none⟩) (E:EL P t e sz by_) (kk:∀ b,SR P ops Q n eff t' hs s ((d,.slice (some ⟨b,0,none⟩) k k)::F) (.pt b (.cells cs.toArray e (0,0))::hp) m) (ev:EvP n F ps vs:=by exact Eb) (he:eff.contains q=true:=by exact rfl) (hz:(P.info? e).bind (·.zero)=some z:=by exact rfl)
 (hzs:a5O z k=some zs:=by exact rfl) (hf:a2J (fun i=>some (i * sz,sz)) zs vs=some cs:=by exact rfl) (hk:k * sz<=16777216:=by decide) (h0:Nat.beq (k * sz) 0=false:=by exact rfl) (hd:Nat.ble (d+1) n.num=true:=by exact rfl):SR P ops Q n eff t' hs (.op q s) F hp m:=SR.buildSlice ho he E hz ev hzs hf hk h0 (leB hd) kk
theorem pD (r:Res) {l:List Oper} (k:WL P ops Q n l F (r::h') m) (d:Del h r h':=by exact De):WL P ops Q n l F h m:=WL.perm (Del.perm d) k
theorem kR (a:Option Addr) {l:List Oper} {k cap sz:Nat} {e:TypeId} {ys:List Value} (kk:k<=cap->cap<=9223372036854775807->ys.length=k * sz->WL P ops Q n l F h m) (hm:Res.row (.slice a k cap) e sz k ys ∈ h:=by exact Me):WL P ops Q n l F h m:=a4l hm kk
theorem iR {a:Option Addr} {k cap sz:Nat} {e:TypeId} {ys:List Value} (hl:ys.length=k * sz) (hle:k<=cap) (hmx:cap<=9223372036854775807) (hm:Res.row (.slice a k cap) e sz k ys ∈ h:=by exact Me):Rd m h a k cap sz ys:=Rd.inRow hm hl hle hmx
end
end
end Go.Eng
namespace Go.Lx
abbrev B:=List UInt8
def ltr (z:Int):Bool:=(decide (z >= 97)&&decide (z<=122))||(decide (z >= 65)&&decide (z<=90))
def b8P (z:Int):Bool:=(decide (z >= 65)&&decide (z<=90))||(decide (z >= 97)&&decide (z<=122))
def dig (z:Int):Bool:=decide (z >= 48)&&decide (z<=57)
def wch (c:UInt8):Bool:=!(!ltr c.toNat&&!dig c.toNat&&((c.toNat:Int) != 46))
def b7i (z:Int):Bool:=b8P z||dig z||(z==46)
def run:B->Nat
 | []=>0
 | c::l=>if wch c then run l+1 else 0
theorem a4g:∀ l,run l<=l.length
 | []=>Nat.le_refl _
 | c::l=>by
  unfold run;have:=a4g l;split <;> simp <;> omega
theorem b7G {l:B} {k:Nat} {c:UInt8} (hc:l[k]?=some c):run (l.drop k)=if wch c then run (l.drop (k+1))+1 else 0:=by
 have h1:k < l.length:=(List.getElem?_eq_some_iff.1 hc).1;rw[List.drop_eq_getElem_cons h1,(List.getElem?_eq_some_iff.1 hc).2];rfl
def a4G:B:=[32,65,70,84,69,82,32,65,76,84,32,65,78,68,32,66,79,79,76,32,66,89,84,69,32,67,65,83,69,32,67,72,65,78,32,69,76,83,69,32,70,65,76,83,69,32,70,79,82,32,73,70,32,73,78,84,32,73,83,32,77,73,78,85,83,32,78,79,84,32,79,70,32,79,82,32,80,65,82,32,80,76,65,67,69,68,32,80,76,85,83,32,80,82,73,32,80,82,79,67,32,80,82,79,67,69,83,83,79,82,32,80,82,79,84,79,67,79,76,32,83,69,81,32,83,73,90,69,32,83,75,73,80,32,83,84,79,80,32,84,73,77,69,82,32,84,73,77,69,83,32,84,82,85,69,32,86,65,76,32,87,72,73,76,69,32]
def key (s:B):Bool:=!(s==[])&&((run s:Int)==s.length)&&Lib.contains a4G ([32]++s++[32])
def name (s:B):Bool:=!(s==[])&&decide ((s.length:Int)<=32)&&(match s with | c::_=>ltr c.toNat | []=>false)&&((run s:Int)==s.length)&&!key s
def b3s:List B:=[[65,70,84,69,82],[65,76,84],[65,78,68],[66,79,79,76],[66,89,84,69],[67,65,83,69],[67,72,65,78],[69,76,83,69],[70,65,76,83,69],[70,79,82],[73,70],[73,78,84],[73,83],[77,73,78,85,83],[78,79,84],[79,70],[79,82],[80,65,82],[80,76,65,67,69,68],[80,76,85,83],[80,82,73],[80,82,79,67],[80,82,79,67,69,83,83,79,82],[80,82,79,84,79,67,79,76],[83,69,81],[83,73,90,69],[83,75,73,80],[83,84,79,80],[84,73,77,69,82],[84,73,77,69,83],[84,82,85,69],[86,65,76],[87,72,73,76,69]]
def a6c (s:B):List B->Bool
 | []=>false
 | x::l=>if x==s then true else a6c s l
theorem a0K (s:B):∀ l,a6c s l=true↔s ∈ l
 | []=>by simp[a6c]
 | x::l=>by
  unfold a6c;split
  ·rename_i h;simp at h;simp[h]
  ·rename_i h
   have h':¬ s=x:=fun e=>h (by simp[e])
   rw[a0K s l];simp[h']
def c1T (s:B):Bool:=a6c s b3s
def b4w:B->Bool
 | []=>true
 | c::l=>if b7i c.toNat then b4w l else false
def bad (s:B):Bool:=decide ((s.length:Int) < 1)||decide ((s.length:Int) > 32)||(match s with | c::_=>!b8P c.toNat | []=>false)||c1T s
def c3O (s:B):Bool:=if bad s then false else b4w s
def encB (s:B):List Value:=[Eng.str s]
theorem C4 (s:B):(encB s).length=1:=rfl
set_option linter.defProp false in
@[reducible,instance]def iencB_len:=Go.Eng.Ln.mk C4 (by decide)
end Go.Lx
section
namespace Go.Xp
open Go.Eng
abbrev B:=List UInt8
inductive Ex where
 | mk (k o t n:Int) (s:B) (a:Option Addr) (c:Nat) (l:List Ex)
namespace Ex
def k:Ex->Int | mk k _ _ _ _ _ _ _=>k
def o:Ex->Int | mk _ o _ _ _ _ _ _=>o
def t:Ex->Int | mk _ _ t _ _ _ _ _=>t
def n:Ex->Int | mk _ _ _ n _ _ _ _=>n
def s:Ex->B | mk _ _ _ _ s _ _ _=>s
def a:Ex->Option Addr | mk _ _ _ _ _ a _ _=>a
def c:Ex->Nat | mk _ _ _ _ _ _ c _=>c
def l:Ex->List Ex | mk _ _ _ _ _ _ _ l=>l
end Ex
def exE (e:Ex):List Value:=[.int .u8 e.k,.int .u8 e.o,.int .u8 e.t,.int .i32 e.n,str e.s,.slice e.a e.l.length e.c]
theorem a3X (e:Ex):(exE e).length=6:=rfl
set_option linter.defProp false in
@[reducible,instance]def iexE_len:=Go.Eng.Ln.mk a3X (by decide)
def exV (e:Ex):Value:=.agg (exE e).toArray
inductive TOk (m:View) (h:List Res):Ex->Prop
 | mk {k o t n:Int} {s:B} {a:Option Addr} {c:Nat} {l:List Ex} (hr:Rd m h a l.length c 6 (fl exE l)) (hc:∀ x ∈ l,TOk m h x):TOk m h (.mk k o t n s a c l)
theorem TOk.rd {m:View} {h:List Res} {e:Ex} (q:TOk m h e):Rd m h e.a e.l.length e.c 6 (fl exE e.l):=by cases q;assumption
theorem TOk.part {m:View} {h:List Res} {e x:Ex} (q:TOk m h e) (hx:x ∈ e.l):TOk m h x:=by cases q with | mk hr hc=>exact hc x hx
theorem TOk.mono {m:View} {h h':List Res} {e:Ex} (q:TOk m h e) (hh:h.Sublist h'):TOk m h' e:=by
 induction q with
 | mk hr _ ih=>exact .mk (hr.mono Vl hh) ih
inductive Wf:Ex->Prop
 | mk {k o t n:Int} {s:B} {a:Option Addr} {c:Nat} {l:List Ex} (hk:0<=k/\k<=255) (ho:0<=o/\o<=255) (ht:0<=t/\t<=255) (hn:-2147483648<=n/\n<=2147483647) (hs:s.length<=140737488355328) (hc:∀ x ∈ l,Wf x):Wf (.mk k o t n s a c l)
theorem Wf.spec {e:Ex} (q:Wf e):((0<=e.k/\e.k<=255)/\(0<=e.o/\e.o<=255)/\(0<=e.t/\e.t<=255))/\((-2147483648<=e.n/\e.n<=2147483647)/\e.s.length<=140737488355328):=by
 cases q with | mk hk ho ht hn hs hc=>exact⟨⟨hk,ho,ht⟩,hn,hs⟩
theorem Wf.part {e x:Ex} (q:Wf e) (hx:x ∈ e.l):Wf x:=by cases q with | mk hk ho ht hn hs hc=>exact hc x hx
theorem Ex.ind {p:Ex->Prop} (h:∀ e:Ex,(∀ x ∈ e.l,p x)->p e) (e:Ex):p e:=
 Ex.rec (motive_1:=p) (motive_2:=fun l=>∀ x ∈ l,p x) (fun k o t n s a c l ih=>h (.mk k o t n s a c l) ih) (fun _ hx=>by cases hx)
  (fun y r hy hr x hx=>by
   rcases List.mem_cons.1 hx with rfl | hx
   ·exact hy
   ·exact hr x hx) e
mutual
def a4f:Ex->Nat
 | .mk _ _ _ _ _ _ _ l=>1+a2N l
def a2N:List Ex->Nat
 | []=>0
 | x::r=>a4f x+a2N r
end
theorem W1 (e:Ex):a4f e=1+a2N e.l:=by cases e;rfl
mutual
def c2k:Ex->List B
 | .mk k _ _ _ s _ _ l=>(if (k==4||k==5)||k==9 then [s] else [])++b65 l
def b65:List Ex->List B
 | []=>[]
 | x::r=>c2k x++b65 r
end
theorem a1w {α:Type} {l:List α} {k:Nat} {c:α} (hc:l[k]?=some c):l.take (k+1)=l.take k++[c]:=by rw[List.take_add_one,hc];rfl
def a81 (x y:Ex):Bool:=((((((x.k != y.k)||(x.o != y.o))||(x.t != y.t))||(x.n != y.n))||(x.s != y.s))||((x.l.length:Int) != y.l.length))
mutual
def E5:Ex->Ex->Bool
 | .mk k o t n s a c l,y=>!a81 (.mk k o t n s a c l) y&&a0s l y.l
def a0s:List Ex->List Ex->Bool
 | [],_=>true
 | _::_,[]=>true
 | x::r,y::q=>E5 x y&&a0s r q
end
theorem a7d (x y:Ex):E5 x y=(!a81 x y&&a0s x.l y.l):=by cases x;rfl
theorem b1K {l q:List Ex} {k:Nat} {x y:Ex} (hx:l[k]?=some x) (hy:q[k]?=some y):a0s (l.drop k) (q.drop k)=(E5 x y&&a0s (l.drop (k+1)) (q.drop (k+1))):=by
 rw[show l.drop k=x::l.drop (k+1) by
  have h1:k < l.length:=(List.getElem?_eq_some_iff.1 hx).1;rw[List.drop_eq_getElem_cons h1,(List.getElem?_eq_some_iff.1 hx).2],
  show q.drop k=y::q.drop (k+1) by
   have h1:k < q.length:=(List.getElem?_eq_some_iff.1 hy).1;rw[List.drop_eq_getElem_cons h1,(List.getElem?_eq_some_iff.1 hy).2]]
 rfl
def fin (o t n:Int) (s:B):Bool:=(((o==0)&&(t==0))&&(n==0))&&(s==[])
def K4 (k:Int):B:=if k=1 then [73,78,84] else if k=2 then [66,89,84,69] else if k=3 then [66,79,79,76] else []
def D4 (e:Ex):Int × Bool:=
 if e.k=1 then (0,fin e.o e.t 0 e.s)
 else if e.k=2 then (if a4B .i32 e.n 8≠0 then (0,false) else (0,fin e.o e.t 0 e.s))
 else if e.k=3 then (if a4B .i32 e.n 1≠0 then (0,false) else (0,fin e.o e.t 0 e.s))
 else if e.k=4 then (if !Go.Lx.name e.s then (0,false) else (0,fin e.o e.t e.n []))
 else if e.k=9 then (if !Go.Lx.name e.s then (0,false) else (0,fin e.o e.t e.n []))
 else if e.k=5 then (if !Go.Lx.name e.s then (0,false) else (1,fin e.o e.t e.n []))
 else if e.k=6 then (if decide (e.o < 23)||decide (IntKind.u8.wrap (e.o - 23) >= 4) then (0,false) else (1,fin 0 e.t e.n e.s))
 else if e.k=7 then (if decide (e.o < 1)||decide (e.o > 22) then (0,false) else (2,fin 0 e.t e.n e.s))
 else if e.k=8 then (if K4 e.t==[] then (0,false) else (1,fin e.o 0 e.n e.s))
 else (0,false)
def a4P (deep left:Int) (e:Ex):Bool:=(((!(D4 e).2||decide (left - 1 < 0))||decide (deep > 32))||((e.l.length:Int) != (D4 e).1))
mutual
def O5 (deep left:Int):Ex->Option Int
 | .mk k o t n s a c l=>if a4P deep left (.mk k o t n s a c l) then none else Z5 (deep+1) (left - 1) l
def Z5 (deep left:Int):List Ex->Option Int
 | []=>some left
 | x::r=>match O5 deep left x with
  | some q=>Z5 deep q r
  | none=>none
end
theorem a2h (deep left:Int) (e:Ex):O5 deep left e=if a4P deep left e then none else Z5 (deep+1) (left - 1) e.l:=by cases e;rfl
theorem b5M {l:List Ex} {k:Nat} {x:Ex} (hx:l[k]?=some x) (deep left:Int):Z5 deep left (l.drop k)=(O5 deep left x).bind fun q=>Z5 deep q (l.drop (k+1)):=by
 have h1:k < l.length:=(List.getElem?_eq_some_iff.1 hx).1;rw[List.drop_eq_getElem_cons h1,(List.getElem?_eq_some_iff.1 hx).2];show(match O5 deep left x with | some q=>Z5 deep q (l.drop (k+1)) | none=>none)=_;cases O5 deep left x <;> rfl
theorem b01 {deep left:Int} {e:Ex} (h:a4P deep left e=false):((D4 e).2=true/\0<=left - 1)/\deep<=32/\(e.l.length:Int)=(D4 e).1:=by
 unfold a4P at h;simp only[Bool.or_eq_false_iff,Bool.not_eq_false',decide_eq_false_iff_not,bne_eq_false_iff_eq] at h;obtain⟨⟨⟨h1,h2⟩,h3⟩,h4⟩:=h;exact⟨⟨h1,by omega⟩,by omega,h4⟩
theorem a8P (e:Ex):∀ (deep left q:Int),0<=left->O5 deep left e=some q->0<=q/\q<=left - 1:=by
 refine Ex.ind (p:=fun e=>∀ (deep left q:Int),0<=left->O5 deep left e=some q->0<=q/\q<=left - 1) (fun e ih deep left q hl hq=>?_) e;rw[a2h] at hq;split at hq
 ·cases hq
 ·rename_i hh
  have hb:=b01 (by simpa using hh);have key:∀ (l:List Ex),(∀ x ∈ l,x ∈ e.l)->∀ z,0<=z->Z5 (deep+1) z l=some q->0<=q/\q<=z:=by
   intro l;induction l with
   | nil=>intro _ z hz h;cases h;omega
   | cons x r ihr=>
    intro hm z hz h;unfold Z5 at h;split at h
    ·rename_i p hp
     have h1:=ih x (hm x (by simp)) _ _ _ hz hp;have h2:=ihr (fun y hy=>hm y (by simp[hy])) p h1.1 h;omega
    ·cases h
  exact key e.l (fun _ h=>h) (left - 1) (by omega) hq
def M0 (e:Ex):Bool:=(O5 1 256 e).isSome
def a4h:List B:=[[],[43],[45],[42],[47],[92],[80,76,85,83],[77,73,78,85,83],[84,73,77,69,83],[47,92],[92,47],[62,60],[60,60],[62,62],[61],[60,62],[60],[62],[60,61],[62,61],[65,78,68],[79,82],[65,70,84,69,82],[45],[77,73,78,85,83],[126],[78,79,84]]
def a1j (o:Int):B × Bool:=if o==0||decide (o >= 27) then ([],false) else (a4h.getD o.toNat [],true)
theorem W2 {α:Type} {l:List α} {k:Nat} {c:α} (hc:l[k]?=some c):l.drop k=c::l.drop (k+1):=by
 have h1:k < l.length:=(List.getElem?_eq_some_iff.1 hc).1;rw[List.drop_eq_getElem_cons h1,(List.getElem?_eq_some_iff.1 hc).2]
end Go.Xp
end
namespace Go.Lx
theorem c1u (z:Int):ltr z=b8P z:=by unfold ltr b8P;rw[Bool.or_comm]
theorem c1j (c:UInt8):wch c=b7i c.toNat:=by
 unfold wch b7i;rw[<- c1u,bne];cases ltr c.toNat <;> cases dig c.toNat <;> simp
theorem b3i:∀ s:B,((run s:Int)==s.length)=b4w s
 | []=>rfl
 | c::l=>by
  have ih:=b3i l;unfold run b4w;rw[c1j];cases b7i c.toNat
  ·simp;omega
  ·rw[<- ih]
   simp only[if_pos,List.length_cons];rw[Bool.eq_iff_iff];simp
theorem b5u:b7i ((32:UInt8).toNat)=false:=by decide
theorem b3S:∀ {s:B},b4w s=true->∀ c ∈ s,c≠32
 | [],_,c,hc=>by cases hc
 | x::l,h,c,hc=>by
  unfold b4w at h;split at h
  ·rename_i hw
   rcases List.mem_cons.1 hc with rfl | hc
   ·rintro rfl
    rw[b5u] at hw;cases hw
   ·exact b3S h c hc
  ·cases h
theorem a8q:∀ {s r:B},(∀ c ∈ s,c≠32)->(s++32::r).takeWhile (· != 32)=s
 | [],_,_=>rfl
 | x::s,r,hs=>by
  have hx:(x != 32)=true:=by simpa using hs x (by simp)
  rw[List.cons_append,List.takeWhile_cons,hx,if_pos rfl,a8q fun c hc=>hs c (List.mem_cons_of_mem _ hc)]
theorem b1Z:∀ i,i < 200->(match (a4G.drop i).takeWhile (· != 32) with | []=>true | w=>a6c w b3s)=true\/a4G[i - 1]?≠some 32:=by decide +kernel
theorem b9Y:∀ s ∈ b3s,key s=true:=by decide +kernel
theorem c2z (s:B):key s=c1T s:=by
 rw[Bool.eq_iff_iff];constructor
 ·intro h
  unfold key at h;rw[Bool.and_eq_true,Bool.and_eq_true,b3i] at h;obtain⟨⟨h0,h1⟩,h2⟩:=h;have hns:=b3S h1;unfold Lib.contains at h2;have h2:=of_decide_eq_true h2;rcases Lib.index_spec a4G ([32]++s++[32]) with ⟨e,_⟩ | ⟨i,_,hi,ho,_⟩
  ·omega
  ·unfold Lib.occAt at ho
   obtain⟨r,hr⟩:=List.isPrefixOf_iff_prefix.1 ho;have h3:(a4G.drop i)[0]?=some 32:=by rw[<- hr];rfl
   have h4:a4G.drop (i+1)=s++32::r:=by
    rw[<- List.tail_drop,<- hr];simp
   rw[List.getElem?_drop] at h3;have hlt:i < a4G.length:=(List.getElem?_eq_some_iff.1 h3).1;have hl:a4G.length<=198:=by decide +kernel
   rcases b1Z (i+1) (by omega) with h5 | h5
   ·rw[h4,a8q hns] at h5
    unfold c1T;cases s with
    | nil=>simp at h0
    | cons c s=>exact h5
   ·exact absurd h3 h5
 ·intro h
  exact b9Y s ((a0K s _).1 h)
end Go.Lx
namespace Go.Ty
section
open Go.Lx
structure Ty where
 kind:Int
 dim:Int
 item:Int
 proto:B
def zeroT:Ty:=⟨0,0,0,[]⟩
def I4 (t:Ty):List Value:=[.int .u8 t.kind,.int .i64 t.dim,.int .u8 t.item,Eng.str t.proto]
def tyV (t:Ty):Value:=.agg (I4 t).toArray
def eqT (t u:Ty):Bool:=(t.kind==u.kind)&&((t.dim==u.dim)&&((t.item==u.item)&&((t.proto==u.proto)&&true)))
theorem eqT_iff (t u:Ty):eqT t u=true↔t=u:=by
 cases t;cases u;simp[eqT]
structure Tok where
 kind:Int
 at_:Int
 text:B
 n:Int
def zeroK:Tok:=⟨0,0,[],0⟩
def B2 (t:Tok):List Value:=[.int .u8 t.kind,.int .i64 t.at_,Eng.str t.text,.int .i32 t.n]
theorem B4 (t:Tok):(B2 t).length=4:=rfl
set_option linter.defProp false in
@[reducible,instance]def iencK_len:=Go.Eng.Ln.mk B4 (by decide)
def R1 (t:Tok):Value:=.agg (B2 t).toArray
def eqK (t u:Tok):Bool:=(t.kind==u.kind)&&((t.at_==u.at_)&&((t.text==u.text)&&((t.n==u.n)&&true)))
theorem eqK_iff (t u:Tok):eqK t u=true↔t=u:=by
 cases t;cases u;simp[eqK]
structure Pm where
 kind:Int
 word:B
 size:Int
def b8f (p:Pm):List Value:=[.int .u8 p.kind,Eng.str p.word,.int .i64 p.size]
def b9W:B:=[73,78,84]
def b2Z:B:=[66,89,84,69]
def b3B:B:=[66,79,79,76]
def prims:List Pm:=[⟨1,b9W,4⟩,⟨2,b2Z,1⟩,⟨3,b3B,1⟩]
def wordIn (k:Int):List Pm->B × Int × Bool
 | []=>([],0,false)
 | p::l=>if p.kind==k then (p.word,p.size,true) else wordIn k l
theorem b0H (k:Int) {l:List Pm} {i:Nat} {p:Pm} (hp:l[i]?=some p):wordIn k (l.drop i)=if p.kind==k then (p.word,p.size,true) else wordIn k (l.drop (i+1)):=by
 have h1:i < l.length:=(List.getElem?_eq_some_iff.1 hp).1;rw[List.drop_eq_getElem_cons h1,(List.getElem?_eq_some_iff.1 hp).2];rfl
def wordS (k:Int):B × Int × Bool:=wordIn k prims
def is (k:Int):Bool:=(wordS k).2.2
def prim (k:Int):Bool:=(k==1)||(k==2)||(k==3)
theorem c3a (k:Int):is k=prim k:=by
 unfold is wordS prims wordIn wordIn wordIn wordIn prim;rw[show((1:Int)==k)=(k==1) from Bool.beq_comm,show((2:Int)==k)=(k==2) from Bool.beq_comm,show((3:Int)==k)=(k==3) from Bool.beq_comm];cases k==1 <;> cases k==2 <;> cases k==3 <;> rfl
def far (t:Ty):Bool:=decide (t.dim < 0)||decide (t.dim > 64)
def timer:Ty:=⟨5,0,0,[]⟩
def may (t:Ty):Bool:=
 if far t then false
 else if is t.kind then (t.item==0)&&(t.proto==[])
 else if t.kind != 4 then eqT t timer
 else if t.item==0 then name t.proto
 else is t.item&&(t.proto==[])
def b6D (t:Ty):Bool:=
 if far t then false
 else if prim t.kind then (t.item==0)&&(t.proto==[])
 else if t.kind==4 then (prim t.item&&(t.proto==[]))||((t.item==0)&&c3O t.proto)
 else eqT t timer
structure Vr where
 tag:B
 a:Option Addr
 n:Nat
 c:Nat
 items:List Int
def L7 (k:Int):List Value:=[.int .u8 k]
theorem D3 (k:Int):(L7 k).length=1:=rfl
set_option linter.defProp false in
@[reducible,instance]def iencI_len:=Go.Eng.Ln.mk D3 (by decide)
def encV (v:Vr):List Value:=[Eng.str v.tag,.slice v.a v.n v.c]
theorem D7 (v:Vr):(encV v).length=2:=rfl
set_option linter.defProp false in
@[reducible,instance]def iencV_len:=Go.Eng.Ln.mk D7 (by decide)
structure VOk (m:Eng.View) (h:List Eng.Res) (v:Vr):Prop where
 rd:Eng.Rd m h v.a v.n v.c 1 (Eng.fl L7 v.items)
theorem VOk.mono {m m':Eng.View} {h h':List Eng.Res} {v:Vr} (o:VOk m h v) (hm:m.le m') (hh:h.Sublist h'):VOk m' h' v:=⟨o.rd.mono hm hh⟩
def prL (cs:Bool) (a:Option Addr) (k c:Nat):List Value:=[.bool cs,.slice a k c]
def prV (cs:Bool) (a:Option Addr) (k c:Nat):Value:=.agg (prL cs a k c).toArray
structure PrOk (m:Eng.View) (h:List Eng.Res) (a:Option Addr) (k c:Nat) (l:List Vr):Prop where
 rd:Eng.Rd m h a k c 2 (Eng.fl encV l)
 ok:∀ v,v ∈ l->VOk m h v
 tag:∀ v,v ∈ l->v.tag.length<=9223372036854775807
theorem PrOk.mono {m m':Eng.View} {h h':List Eng.Res} {a:Option Addr} {k c:Nat} {l:List Vr} (o:PrOk m h a k c l) (hm:m.le m') (hh:h.Sublist h'):PrOk m' h' a k c l:=
 ⟨o.rd.mono hm hh,fun v hv=>(o.ok v hv).mono hm hh,o.tag⟩
def idxF {α:Type} (q:α->Bool):List α->Int->Int
 | [],_=>-1
 | x::l,k=>if q x then k else idxF q l (k+1)
theorem idxF_drop {α:Type} (q:α->Bool) {l:List α} {i:Nat} {x:α} (hx:l[i]?=some x) (k:Int):idxF q (l.drop i) k=if q x then k else idxF q (l.drop (i+1)) (k+1):=by
 have h1:i < l.length:=(List.getElem?_eq_some_iff.1 hx).1;rw[List.drop_eq_getElem_cons h1,(List.getElem?_eq_some_iff.1 hx).2];rfl
theorem idxF_any {α:Type} (q:α->Bool):∀ (l:List α) (k:Int),0<=k->decide (idxF q l k >= 0)=l.any q
 | [],_,_=>rfl
 | x::l,k,hk=>by
  unfold idxF;rw[List.any_cons];cases h:q x
  ·rw[Bool.false_or,<- idxF_any q l (k+1) (by omega)];rfl
  ·simp only[if_true,Bool.true_or];exact decide_eq_true hk
def a6Q (l:List Int) (least:Int):Bool:=decide ((l.length:Int) >= least)&&decide ((l.length:Int)<=8)&&!(l.any fun k=>!is k)
def tagIn (tag:B) (l:List Vr):Bool:=l.any fun w=>w.tag==tag
def badV (pre:List Vr) (v:Vr):Bool:=!name v.tag||!a6Q v.items 0||tagIn v.tag pre
def mayIn (pre:List Vr):List Vr->Bool
 | []=>true
 | v::r=>if badV pre v then false else mayIn (pre++[v]) r
theorem b2t {l:List Vr} {i:Nat} {v:Vr} (hv:l[i]?=some v):mayIn (l.take i) (l.drop i)=if badV (l.take i) v then false else mayIn (l.take (i+1)) (l.drop (i+1)):=by
 have h1:i < l.length:=(List.getElem?_eq_some_iff.1 hv).1;rw[Eng.take_snoc hv,List.drop_eq_getElem_cons h1,(List.getElem?_eq_some_iff.1 hv).2];rfl
def c3q:Vr:=⟨[],none,0,0,[]⟩
def hdV (l:List Vr):Vr:=l.headD c3q
theorem b3Y {l:List Vr} (h:((l.length:Int)==1)=true):l[0]?=some (hdV l):=by
 cases l with
 | nil=>simp at h
 | cons v l=>rfl
def mayPr (cs:Bool) (l:List Vr):Bool:=
 if !cs then ((l.length:Int)==1)&&((hdV l).tag==[])&&a6Q (hdV l).items 1
 else if decide ((l.length:Int) < 1)||decide ((l.length:Int) > 16) then false
 else mayIn [] l
theorem a5M:∀ {l pre:List Vr},mayIn pre l=true->∀ v,v ∈ l->v.items.length<=8
 | [],_,_,v,hv=>by cases hv
 | w::r,pre,h,v,hv=>by
  unfold mayIn at h;cases hb:badV pre w with
  | true=>rw[hb] at h;cases h
  | false=>
   rw[hb] at h;rcases List.mem_cons.1 hv with rfl | hv
   ·unfold badV a6Q at hb
    simp at hb;omega
   ·exact a5M h v hv
theorem mayPr_items {cs:Bool} {l:List Vr} (h:mayPr cs l=true):∀ v,v ∈ l->v.items.length<=8:=by
 unfold mayPr at h;cases cs with
 | false=>
  simp only[Bool.not_false,if_true,Bool.and_eq_true] at h;intro v hv;have h1:=b3Y h.1.1;match l,h.1.1,hv with
  | [w],_,hv=>
   have:v=w:=by simpa using hv
   subst this;have h2:=h.2;unfold a6Q hdV at h2;simp at h2;omega
 | true=>
  simp only[Bool.not_true,Bool.false_eq_true,if_false] at h;split at h
  ·cases h
  ·exact a5M h
def eqI (x y:Int):Bool:=x==y
theorem a9s (x y:Int):eqI x y=true↔x=y:=by simp[eqI]
theorem a1X {x y:Int} (h:(x != y)=true):eqI x y=false:=by simpa [eqI] using h
theorem a1Y {x y:Int} (h:(x != y)=false):eqI x y=true:=by simpa [eqI] using h
end
end Go.Ty
namespace Go.Lx
section
open Go.Ty
def b0E:B:=[43,45,42,47,92,61,60,62,126,63,33,38,58,59,44,40,41,91,93]
def a2R:B:=[32,47,92,32,92,47,32,62,60,32,60,60,32,62,62,32,60,62,32,60,61,32,62,61,32,58,61,32]
def N4:B:=[48,49,50,51,52,53,54,55,56,57,65,66,67,68,69,70]
def a4A:B:=[99,110,116,115,39,34,42]
def a0X:B:=[13,10,9,32,39,34,42]
def sym:B->Bool
 | [a]=>Lib.contains b0E [a]
 | [a,b]=>((a.toNat:Int) != 32)&&((b.toNat:Int) != 32)&&Lib.contains a2R ([32]++[a,b]++[32])
 | _=>false
def J4 (t:Tok):Bool:=
 if decide (t.at_ < 0)||decide (t.at_ >= 256) then false
 else if t.kind==1 then (t.n==0)&&name t.text
 else if t.kind==2 then (t.n==0)&&key t.text
 else if t.kind==5 then (t.n==0)&&sym t.text
 else if t.kind==4 then (t.text==[])&&decide (t.n >= 0)&&decide (t.n < 256)
 else (t.kind==3)&&(t.text==[])
def a2A (r:B):Tok × Nat:=
 if key (r.take (run r)) then (⟨2,0,r.take (run r),0⟩,run r) else if decide ((run r:Int) > 32) then (zeroK,0) else (⟨1,0,r.take (run r),0⟩,run r)
def a8h:B->Int->Option Int
 | [],v=>some v
 | c::l,v=>if !dig c.toNat then none else a8h l (10 * v+((c.toNat:Int) - 48))
def a8f (r:B):Tok × Nat:=
 if decide ((run r:Int) > 10) then (zeroK,0) else
 match a8h (r.take (run r)) 0 with
 | none=>(zeroK,0)
 | some v=>if v != IntKind.i32.wrap v then (zeroK,0) else (⟨3,0,[],IntKind.i32.wrap v⟩,run r)
def a4n (c:UInt8):Int:=Lib.indexByte N4 c
def b1e:B->Int->Option Int
 | [],v=>some v
 | c::l,v=>if decide (a4n c < 0) then none else b1e l (16 * v+a4n c)
def a04 (s:B):Int × Bool:=
 match b1e s 0 with
 | none=>(0,false)
 | some v=>(v,!(s==[]))
def a9V (r:B):Tok × Nat:=
 if decide ((run (r.drop 1):Int) > 8) then (zeroK,0) else
 if !(a04 ((r.drop 1).take (run (r.drop 1)))).2 then (zeroK,0) else
 (⟨3,0,[],IntKind.i32.wrap (a04 ((r.drop 1).take (run (r.drop 1)))).1⟩,1+run (r.drop 1))
def chB (s:B) (i:Nat):Int:=((s.getD i 0).toNat:Int)
def esc (c:UInt8):Int:=Lib.indexByte a4A c
def K0 (s:B):Int × Nat:=
 if (s==[])||decide (chB s 0 < 32)||decide (chB s 0 > 126)||(chB s 0==39) then (0,0)
 else if chB s 0 != 42 then (chB s 0,1)
 else if decide ((s.length:Int) < 2) then (0,0)
 else if decide (esc (s.getD 1 0) >= 0) then (chB a0X (esc (s.getD 1 0)).toNat,2)
 else if (chB s 1 != 35)||decide ((s.length:Int) < 4) then (0,0)
 else if !(a04 ((s.drop 2).take 2)).2 then (0,0)
 else ((a04 ((s.drop 2).take 2)).1,4)
def noQ (s:B) (n:Nat):Bool:=((n:Int)==0)||((n:Int)==s.length)||(chB s n != 39)
def Z7 (r:B):Tok × Nat:=
 if noQ (r.drop 1) (K0 (r.drop 1)).2 then (zeroK,0) else (⟨4,0,[],(K0 (r.drop 1)).1⟩,(K0 (r.drop 1)).2+2)
def a5U (r:B):Tok × Nat:=
 if decide (2<=r.length)&&sym (r.take 2) then (⟨5,0,r.take 2,0⟩,2)
 else if decide (1<=r.length)&&sym (r.take 1) then (⟨5,0,r.take 1,0⟩,1)
 else (zeroK,0)
def tok (r:B):Tok × Nat:=
 if ltr (chB r 0) then a2A r else if dig (chB r 0) then a8f r else if chB r 0==35 then a9V r else if chB r 0==39 then Z7 r else a5U r
def a6k:Nat->B->Nat->Except Nat (List Tok)
 | _,[],_=>.ok []
 | 0,_::_,_=>.ok []
 | k+1,c::r,at_=>
  if (c.toNat:Int)==32 then a6k k r (at_+1)
  else if (tok (c::r)).2==0 then .error at_
  else match a6k k ((c::r).drop (tok (c::r)).2) (at_+(tok (c::r)).2) with
   | .ok l=>.ok ({ (tok (c::r)).1 with at_:=at_ }::l)
   | .error e=>.error e
def lexO (s:B):List Tok × Int × Int:=
 if decide ((s.length:Int) > 256) then ([],0,3)
 else match a6k s.length s 0 with
  | .ok l=>(l,0,0)
  | .error a=>([],a,80)
end
section
open Go.Ty
set_option maxRecDepth 100000
theorem X7 {p:UInt8->Bool} (h:∀ n,n < 256->p (UInt8.ofNat n)=true) (c:UInt8):p c=true:=by
 have:=h c.toNat c.toNat_lt;rwa [UInt8.ofNat_toNat] at this
def b07:List B:=[[43],[45],[42],[47],[92],[47,92],[92,47],[62,60],[60,60],[62,62],[61],[60,62],[60],[62],[60,61],[62,61],[126],[58,61],[63],[33],[38],[58],[59],[44],[40],[41],[91],[93]]
def c0p (s:B):Bool:=a6c s b07
theorem c2h:∀ s ∈ b07,sym s=true:=by decide +kernel
theorem c0i:∀ c:UInt8,(sym [c]==c0p [c])=true:=X7 (by decide +kernel)
theorem b2b:∀ i,i < 28->(match a2R.drop i with | 32::a::b::32::_=>a6c [a,b] b07||a==32||b==32 | _=>true)=true:=by decide +kernel
theorem c2i (s:B):sym s=c0p s:=by
 match s with
 | []=>rfl
 | [a]=>simpa using c0i a
 | [a,b]=>
  rw[Bool.eq_iff_iff];constructor
  ·intro h
   unfold sym at h;simp only[Bool.and_eq_true] at h;obtain⟨⟨ha,hb⟩,h2⟩:=h;unfold Lib.contains at h2;have h2:=of_decide_eq_true h2;rcases Lib.index_spec a2R ([32]++[a,b]++[32]) with ⟨e,_⟩ | ⟨i,_,hi,ho,_⟩
   ·omega
   ·unfold Lib.occAt at ho
    obtain⟨r,hr⟩:=List.isPrefixOf_iff_prefix.1 ho;have hlt:i < 28:=by
     have hl:a2R.length=28:=rfl;rcases Nat.lt_or_ge i 28 with h | h
     ·exact h
     ·rw[List.drop_eq_nil_of_le (by omega)] at hr;simp at hr
    have h5:=b2b i hlt;rw[<- hr] at h5;simp only[List.cons_append,List.nil_append,Bool.or_eq_true,beq_iff_eq] at h5;rcases h5 with (h5 | h5) | h5
    ·exact h5
    ·subst h5;simp at ha
    ·subst h5;simp at hb
  ·intro h
   exact c2h _ ((a0K _ _).1 h)
 | a::b::c::s=>
  have:c0p (a::b::c::s)=false:=by
   cases h:c0p (a::b::c::s) with
   | false=>rfl
   | true=>
    have:=(a0K _ _).1 h;simp[b07] at this
  rw[this];rfl
def a9o (base:Int) (c:UInt8):Int:=
 if (base==16)&&decide ((c.toNat:Int) >= 65)&&decide ((c.toNat:Int)<=70) then (c.toNat:Int) - 65+10 else if dig c.toNat then (c.toNat:Int) - 48 else -1
def a6g (base:Int):B->Int->Option Int
 | [],v=>some v
 | c::l,v=>if decide (a9o base c < 0) then none else a6g base l (base * v+a9o base c)
def b8z (s:B) (base most limit:Int):Int × Bool:=
 if decide ((s.length:Int) < 1)||decide ((s.length:Int) > most) then (0,false) else
 match a6g base s 0 with
 | none=>(0,false)
 | some v=>(v,decide (v < limit))
theorem c1G (c:UInt8):a9o 10 c=if dig c.toNat then (c.toNat:Int) - 48 else -1:=rfl
theorem c2j (c:UInt8):a4n c=a9o 16 c:=by simpa using X7 (p:=fun c=>a4n c==a9o 16 c) (by decide +kernel) c
theorem b7Q:∀ (l:B) (v:Int),a8h l v=a6g 10 l v
 | [],v=>rfl
 | c::l,v=>by
  unfold a8h a6g;rw[c1G,b7Q l];cases h:dig c.toNat with
  | false=>rfl
  | true=>
   have:decide ((c.toNat:Int) - 48 < 0)=false:=by
    unfold dig at h;simp at h;simp;omega
   simp[this]
theorem a3i:∀ (l:B) (v:Int),b1e l v=a6g 16 l v
 | [],v=>rfl
 | c::l,v=>by
  unfold b1e a6g;rw[c2j,a3i l]
theorem a3H (c:UInt8):a9o 16 c < 16:=by simpa using X7 (p:=fun c=>decide (a9o 16 c < 16)) (by decide +kernel) c
theorem a1f {base:Int} (hb:1<=base) (hd:∀ c,a9o base c < base):∀ (l:B) (v r:Int),0<=v->a6g base l v=some r->0<=r/\r < (v+1) * base ^ l.length
 | [],v,r,hv,h=>by cases h;simp;omega
 | c::l,v,r,hv,h=>by
  unfold a6g at h;split at h
  ·cases h
  ·rename_i hc
   have hc0:0<=a9o base c:=by simpa using hc
   have hc1:=hd c;have h0:0<=base * v:=Int.mul_nonneg (by omega) hv;obtain⟨h1,h2⟩:=a1f hb hd l _ r (by omega) h;refine⟨h1,Int.lt_of_lt_of_le h2 ?_⟩;rw[List.length_cons,Int.pow_succ,<- Int.mul_assoc,Int.mul_right_comm];refine Int.mul_le_mul_of_nonneg_right ?_ (Int.pow_nonneg (by omega));rw[Int.add_mul,Int.one_mul,Int.mul_comm v base];omega
theorem b6V (s:B) (n:Nat) (hn:s.length<=n) (lim:Int) (hl:16 ^ n<=lim):a04 s=b8z s 16 n lim:=by
 unfold a04 b8z;rw[a3i];cases s with
 | nil=>rfl
 | cons c s=>
  have e:(decide (((c::s).length:Int) < 1)||decide (((c::s).length:Int) > n))=false:=by simp at hn ⊢;omega
  rw[e];simp only[Bool.false_eq_true,if_false];cases h:a6g 16 (c::s) 0 with
  | none=>rfl
  | some v=>
   have hb:=(a1f (by decide) a3H (c::s) 0 v (by decide) h).2;have hp:(16:Int) ^ (c::s).length<=16 ^ n:=by exact_mod_cast Nat.pow_le_pow_right (by decide) hn
   simp only[Prod.mk.injEq,true_and];rw[show((c::s)==[])=false from rfl];symm;simp;omega
def a5s:List B:=[[42,99],[42,110],[42,116],[42,115],[42,39],[42,34],[42,42]]
def a3w:List Int:=[13,10,9,32,39,34,42]
def a7X (s:B):List B->List Int->Option Int
 | x::l,v::k=>if s==x then some v else a7X s l k
 | _,_=>none
def W8 (s:B):Int × Bool:=
 if ((s.length:Int)==1)&&decide (chB s 0 >= 32)&&decide (chB s 0<=126)&&(s != [39])&&(s != [42]) then (chB s 0,true)
 else match a7X s a5s a3w with
  | some v=>(v,true)
  | none=>if ((s.length:Int)==4)&&(s.take 2==[42,35]) then (IntKind.i32.wrap (b8z (s.drop 2) 16 2 256).1,(b8z (s.drop 2) 16 2 256).2) else (0,false)
def c3o (s:B) (n:Nat):Bool:=(W8 ((s.drop 1).take (n - 2))).2&&(chB s (n - 1)==39)
def a7S (s:B):List Nat->Tok × Nat
 | []=>(zeroK,0)
 | n::ns=>if !decide ((n:Int)<=s.length) then (zeroK,0) else if c3o s n then (⟨4,0,[],(W8 ((s.drop 1).take (n - 2))).1⟩,n) else a7S s ns
def a6l (s:B):Tok × Nat:=a7S s [3,4,5,6]
theorem b1D (a:UInt8):W8 [a]=if (decide ((a.toNat:Int) >= 32)&&decide ((a.toNat:Int)<=126)&&(a != 39)&&(a != 42)) then ((a.toNat:Int),true) else (0,false):=by
 have:=X7 (p:=fun a=>W8 [a]==if (decide ((a.toNat:Int) >= 32)&&decide ((a.toNat:Int)<=126)&&(a != 39)&&(a != 42)) then ((a.toNat:Int),true) else (0,false)) (by decide +kernel) a;simpa using this
theorem b6A (a b:UInt8):a7X [a,b] a5s a3w=if a==42&&decide (esc b >= 0) then some (chB a0X (esc b).toNat) else none:=by
 by_cases h:a=42
 ·subst h
  have:=X7 (p:=fun b=>a7X [42,b] a5s a3w==if decide (esc b >= 0) then some (chB a0X (esc b).toNat) else none) (by decide +kernel) b;simpa using this
 ·have h':(a==42)=false:=by simpa using h
  rw[h'];simp[a7X,a5s,a3w,h]
theorem a0k (a b:UInt8):W8 [a,b]=if a==42&&decide (esc b >= 0) then (chB a0X (esc b).toNat,true) else (0,false):=by
 unfold W8;rw[show(([a,b].length:Int)==1)=false from rfl,show(([a,b].length:Int)==4)=false from rfl,b6A];simp only[Bool.false_and,Bool.false_eq_true,if_false];cases (a==42&&decide (esc b >= 0)) <;> rfl
theorem a8N (s:B) (h:s.length≠2):a7X s a5s a3w=none:=by
 have:∀ x:B,x.length=2->(s==x)=false:=by
  intro x hx;cases e:s==x with
  | false=>rfl
  | true=>exact absurd (by rw[eq_of_beq e];exact hx) h
 simp[a7X,a5s,a3w,this]
theorem O7 (a b c:UInt8):W8 [a,b,c]=(0,false):=by
 unfold W8;rw[a8N _ (by simp)];rfl
theorem b2q {v:Int} (h:0<=v/\v < 2147483648):IntKind.i32.wrap v=v:=by
 unfold IntKind.wrap;simp[IntKind.bits,IntKind.signed];omega
theorem a0T (a b c d:UInt8):W8 [a,b,c,d]=if (a==42)&&(b==35) then a04 [c,d] else (0,false):=by
 unfold W8;rw[a8N _ (by simp)];rw[show(([a,b,c,d].length:Int)==1)=false from rfl,show(([a,b,c,d].length:Int)==4)=true from rfl,show List.take 2 [a,b,c,d]=[a,b] from rfl,show List.drop 2 [a,b,c,d]=[c,d] from rfl];simp only[Bool.false_and,Bool.false_eq_true,if_false,Bool.true_and];rw[show([a,b]==[42,35])=((a==42)&&(b==35)) by rw[Bool.eq_iff_iff];simp];cases ((a==42)&&(b==35)) with
 | false=>rfl
 | true=>
  simp only[if_true];rw[show b8z [c,d] 16 2 256=a04 [c,d] from (b6V [c,d] 2 (Nat.le_refl _) 256 (by decide)).symm];unfold a04;rw[a3i];cases h:a6g 16 [c,d] 0 with
  | none=>rfl
  | some v=>
   have hb:=a1f (by decide) a3H [c,d] 0 v (by decide) h;have h2:v < 256:=hb.2;simp only[b2q ⟨hb.1,by omega⟩]
theorem b8s (a:UInt8) (s:B) (i:Nat):chB (a::s) (i+1)=chB s i:=rfl
theorem a2n (a:UInt8) (s:B):chB (a::s) 0=(a.toNat:Int):=rfl
theorem q39 (s : B) (i : Nat) : (chB s i == 39) = (s[i]? == some 39) := by
 unfold chB
 rw [List.getD_eq_getElem?_getD]
 cases s[i]? with
 | none => rfl
 | some b =>
   simp only [Option.getD_some]
   rw [Bool.eq_iff_iff]
   simp
   constructor
   · intro h; exact UInt8.toNat.inj (by have : b.toNat = 39 := by exact_mod_cast h
                                        rw [this]; rfl)
   · rintro rfl; rfl
def b1y:Tok × Nat:=(zeroK,0)
theorem b5q (a:UInt8) (t:B) (h:(decide ((a.toNat:Int) < 32)||decide ((a.toNat:Int) > 126)||(a==39))=true):K0 (a::t)=(0,0):=by
 have:((a::t==[])||decide (chB (a::t) 0 < 32)||decide (chB (a::t) 0 > 126)||(chB (a::t) 0==39))=true:=by
  rw[q39,a2n];simpa [Bool.or_assoc] using h
 unfold K0;rw[if_pos this]
theorem a7A (a:UInt8) (t:B) (h:(decide ((a.toNat:Int) < 32)||decide ((a.toNat:Int) > 126)||(a==39))=false):((a::t==[])||decide (chB (a::t) 0 < 32)||decide (chB (a::t) 0 > 126)||(chB (a::t) 0==39))=false:=by
 rw[q39,a2n];simpa [Bool.or_assoc] using h
theorem b6E (a:UInt8):((a.toNat:Int) != 42)=(a != 42):=by
 simpa using X7 (p:=fun a=>((a.toNat:Int) != 42)==(a != 42)) (by decide +kernel) a
theorem b6t (a:UInt8):((a.toNat:Int) != 35)=(a != 35):=by
 simpa using X7 (p:=fun a=>((a.toNat:Int) != 35)==(a != 35)) (by decide +kernel) a
theorem b1l (a:UInt8) (t:B) (h:(decide ((a.toNat:Int) < 32)||decide ((a.toNat:Int) > 126)||(a==39))=false) (hs:(a != 42)=true):K0 (a::t)=((a.toNat:Int),1):=by
 unfold K0;rw[if_neg (by rw[a7A a t h];decide),if_pos (by rw[a2n,b6E];exact hs)];rfl
theorem a71 (t:B):K0 (42::t)=match t with
 | []=>(0,0)
 | b::u=>if decide (esc b >= 0) then (chB a0X (esc b).toNat,2) else if (b != 35)||decide (u.length < 2) then (0,0) else if !(a04 (u.take 2)).2 then (0,0) else ((a04 (u.take 2)).1,4):=by
 unfold K0;rw[if_neg (by rw[a7A 42 t (by decide)];decide),if_neg (by rw[a2n];decide)];cases t with
 | nil=>rfl
 | cons b u=>
  rw[if_neg (by simp;omega)];show(if decide (esc b >= 0)=true then _ else if ((chB (b::u) 0 != 35)||_)=true then _ else if (!(a04 (u.take 2)).2)=true then _ else _)=_;rw[a2n,b6t];have:decide (((42::b::u).length:Int) < 4)=decide (u.length < 2):=by
   congr 1
   simp;omega
  rw[this];rfl
theorem a2v {q:UInt8} {s:B} {v:Int} {n:Nat} (h:K0 s=(v,n)):Z7 (q::s)=if noQ s n then b1y else (⟨4,0,[],v,⟩,n+2):=by
 unfold Z7;rw[show List.drop 1 (q::s)=s from rfl,h];rfl
theorem a1l {q:UInt8} {s:B} (h:K0 s=(0,0)):Z7 (q::s)=b1y:=by
 rw[a2v h];rfl
theorem b1O (s:B) (n:Nat) (hn:n≠0):noQ s n=!(s[n]?==some 39):=by
 unfold noQ;rw[bne,q39];cases h:s[n]?==some 39 with
 | false=>simp
 | true=>
  have h1:n < s.length:=by
   rcases Nat.lt_or_ge n s.length with h2 | h2
   ·exact h2
   ·rw[List.getElem?_eq_none h2] at h;cases h
  simp;omega
theorem b2r (q:UInt8) (s:B):a6l (q::s) =
 if !decide (2<=s.length) then b1y else if (W8 (s.take 1)).2&&(s[1]?==some 39) then (⟨4,0,[],(W8 (s.take 1)).1⟩,3) else
 if !decide (3<=s.length) then b1y else if (W8 (s.take 2)).2&&(s[2]?==some 39) then (⟨4,0,[],(W8 (s.take 2)).1⟩,4) else
 if !decide (4<=s.length) then b1y else if (W8 (s.take 3)).2&&(s[3]?==some 39) then (⟨4,0,[],(W8 (s.take 3)).1⟩,5) else
 if !decide (5<=s.length) then b1y else if (W8 (s.take 4)).2&&(s[4]?==some 39) then (⟨4,0,[],(W8 (s.take 4)).1⟩,6) else b1y:=by
 unfold a6l a7S a7S a7S a7S a7S c3o;simp only[show List.drop 1 (q::s)=s from rfl,show(3 - 2:Nat)=1 from rfl,show(4 - 2:Nat)=2 from rfl,show(5 - 2:Nat)=3 from rfl,show(6 - 2:Nat)=4 from rfl,b8s,q39];have e:∀ n:Nat,decide (((n+1:Nat):Int)<=((q::s).length:Int))=decide (n<=s.length):=fun n=>by congr 1;simp
 rw[show((3:Nat):Int)=((2+1:Nat):Int) from rfl,show((4:Nat):Int)=((3+1:Nat):Int) from rfl,show((5:Nat):Int)=((4+1:Nat):Int) from rfl,show((6:Nat):Int)=((5+1:Nat):Int) from rfl,e,e,e,e];rfl
theorem b1u (q:UInt8) (s:B):a6l (q::s) =
 if (W8 (s.take 1)).2&&(s[1]?==some 39) then (⟨4,0,[],(W8 (s.take 1)).1⟩,3) else
 if (W8 (s.take 2)).2&&(s[2]?==some 39) then (⟨4,0,[],(W8 (s.take 2)).1⟩,4) else
 if (W8 (s.take 3)).2&&(s[3]?==some 39) then (⟨4,0,[],(W8 (s.take 3)).1⟩,5) else
 if (W8 (s.take 4)).2&&(s[4]?==some 39) then (⟨4,0,[],(W8 (s.take 4)).1⟩,6) else b1y:=by
 rw[b2r];match s with
 | []=>simp
 | [a]=>simp
 | [a,b]=>simp
 | [a,b,c]=>simp
 | [a,b,c,d]=>simp
 | a::b::c::d::e::s=>simp
theorem c2N (q:UInt8) (s:B):a6l (q::s)=Z7 (q::s):=by
 rw[b1u];match s with
 | []=>rfl
 | a::t=>
  cases hb:(decide ((a.toNat:Int) < 32)||decide ((a.toNat:Int) > 126)||(a==39)) with
  | true=>
   have hs:(a==42)=false:=by
    cases hs:a==42 with
    | false=>rfl
    | true=>rw[eq_of_beq hs] at hb;revert hb;decide
   have e1:W8 [a]=(0,false):=by
    rw[b1D];have:(decide ((a.toNat:Int) >= 32)&&decide ((a.toNat:Int)<=126)&&(a != 39)&&(a != 42))=false:=by
     simp only[Bool.or_eq_true,decide_eq_true_eq] at hb;rcases hb with (hb | hb) | hb
     ·rw[show decide ((a.toNat:Int) >= 32)=false by simp;omega];rfl
     ·rw[show decide ((a.toNat:Int)<=126)=false by simp;omega,Bool.and_false];rfl
     ·rw[bne,hb];simp
    rw[this];rfl
   rw[a1l (b5q a t hb)];match t with
   | []=>simp[e1]
   | [b]=>simp[e1,a0k,hs]
   | [b,c]=>simp[e1,a0k,O7,hs]
   | b::c::d::t=>simp[e1,a0k,O7,a0T,hs]
  | false=>
   cases hs:a != 42 with
   | true=>
    have hs':(a==42)=false:=by simpa [bne] using hs
    have e1:W8 [a]=((a.toNat:Int),true):=by
     rw[b1D];have:(decide ((a.toNat:Int) >= 32)&&decide ((a.toNat:Int)<=126)&&(a != 39)&&(a != 42))=true:=by
      simp only[Bool.or_eq_false_iff,decide_eq_false_iff_not] at hb;rw[hs,bne,hb.2];simp;omega
     rw[this];rfl
    rw[a2v (b1l a t hb hs),b1O _ _ (by decide)];match t with
    | []=>simp[e1]
    | [b]=>simp[e1,a0k,hs']
    | [b,c]=>simp[e1,a0k,O7,hs']
    | b::c::d::t=>simp[e1,a0k,O7,a0T,hs']
   | false=>
    have e:a=42:=by simpa using hs
    subst e;have e1:W8 [42]=(0,false):=by decide
    match t with
    | []=>rfl
    | b::u=>
     cases hE:decide (esc b >= 0) with
     | true=>
      have hC:K0 (42::b::u)=(chB a0X (esc b).toNat,2):=by rw[a71];simp only[hE,if_true]
      rw[a2v hC,b1O _ _ (by decide)];have h35:(b==35)=false:=by
       cases h:b==35 with
       | false=>rfl
       | true=>rw[eq_of_beq h] at hE;revert hE;decide
      have e2:W8 [42,b]=(chB a0X (esc b).toNat,true):=by rw[a0k,hE];rfl
      match u with
      | []=>simp[e1,e2]
      | [c]=>simp[e1,e2,O7]
      | c::d::u=>simp[e1,e2,O7,a0T,h35]
     | false=>
      have e2:W8 [42,b]=(0,false):=by rw[a0k,hE];rfl
      have hC:K0 (42::b::u)=if (b != 35)||decide (u.length < 2) then (0,0) else if !(a04 (u.take 2)).2 then (0,0) else ((a04 (u.take 2)).1,4):=by
       rw[a71];simp only[hE,Bool.false_eq_true,if_false]
      match u with
      | []=>rw[a1l (hC.trans (by simp))];simp[e1,e2]
      | [c]=>rw[a1l (hC.trans (by simp))];simp[e1,e2,O7]
      | c::d::u=>
       cases h35:b==35 with
       | false=>
        rw[a1l (hC.trans (by simp[bne,h35]))];simp[e1,e2,O7,a0T,h35]
       | true=>
        have h35':(b != 35)=false:=by rw[bne,h35];rfl
        cases hx:(a04 [c,d]).2 with
        | false=>
         rw[a1l (hC.trans (by simp[h35',hx]))];simp[e1,e2,O7,a0T,h35,hx]
        | true=>
         rw[a2v (v:=(a04 [c,d]).1) (n:=4) (hC.trans (by simp[h35',hx])),b1O _ _ (by decide)];simp[e1,e2,O7,a0T,h35,hx]
theorem b1d:∀ (l:B),run (l.take (run l))=run l
 | []=>rfl
 | c::l=>by
  have e:run (c::l)=if wch c then run l+1 else 0:=rfl
  cases hw:wch c with
  | false=>rw[e,hw];rfl
  | true=>
   rw[e,hw];simp only[if_true,List.take_succ_cons];show(if wch c then run (l.take (run l))+1 else 0)=_;rw[hw,b1d l];rfl
theorem b02 (l:B):(l.take (run l)).length=run l:=by rw[List.length_take];have:=a4g l;omega
theorem b9O {c:UInt8} (h:ltr c.toNat=true):wch c=true:=by unfold wch;rw[h];rfl
theorem b1f {c:UInt8} {l:B} (h:wch c=true):run (c::l)=1+run l:=by
 show(if wch c then run l+1 else 0)=_;rw[h,Nat.add_comm];rfl
theorem b5h {c:UInt8} {l:B} (h:ltr c.toNat=true) (hk:key ((c::l).take (run (c::l)))=false):name ((c::l).take (run (c::l)))=!decide ((run (c::l):Int) > 32):=by
 have e1:=b1d (c::l);have e2:=b02 (c::l);have e3:(c::l).take (run (c::l))=c::l.take (run l):=by rw[b1f (b9O h),Nat.add_comm];rfl
 unfold name;rw[e1,e2,hk,e3];simp only[h];simp;rw[<- decide_not];congr 1
 simp
end
end Go.Lx
section
namespace Go.Xp
open Go.Eng Go
theorem c4w {n:Int} (h:-2147483648<=n/\n<=2147483647):(a4B .i32 n 8=0)↔(0<=n/\n<=255):=by
 unfold a4B;rw[Int.fdiv_eq_ediv_of_nonneg _ (by decide)];simp[IntKind.bits];omega
theorem c4f {n:Int} (h:-2147483648<=n/\n<=2147483647):(a4B .i32 n 1=0)↔(0<=n/\n<=1):=by
 unfold a4B;rw[Int.fdiv_eq_ediv_of_nonneg _ (by decide)];simp[IntKind.bits];omega
theorem b6T {o:Int} (h:23<=o/\o<=255):IntKind.u8.wrap (o - 23)=o - 23:=by
 unfold IntKind.wrap;simp[IntKind.bits,IntKind.signed];omega
end Go.Xp
namespace Go.Xp
open Go.Eng Go
open Go.Ty (Tok B2)
def C1 (s:B):Tok:=⟨5,0,s,0⟩
def a0x (s:B):Tok:=⟨2,0,s,0⟩
def D5 (s:B):Tok:=⟨1,0,s,0⟩
def a6j (n:Int):Tok:=⟨3,0,[],n⟩
def a0V (n:Int):Tok:=⟨4,0,[],n⟩
def C6 (s:B):Tok:=if Go.Lx.key s then a0x s else C1 s
def I9 (o:Int):Tok:=C6 (a1j o).1
def par (k:Int):Bool:=(((k==6)||(k==7))||(k==8))||(k==9)
def K9 (p:Bool × List Tok):List Tok:=if p.1 then C1 [40]::(p.2++[C1 [41]]) else p.2
def wr (k o t n:Int) (s:B) (ws:List (Bool × List Tok)):List Tok:=
 if k=1 then [a6j n] else if k=2 then [a0V n] else if k=3 then (if n=0 then [C6 [70,65,76,83,69]] else [C6 [84,82,85,69]])
 else if k=4 then [D5 s] else if k=9 then [C6 [83,73,90,69],D5 s] else if k=5 then D5 s::C1 [91]::((ws.getD 0 (false,[])).2++[C1 [93]])
 else if k=6 then I9 o::K9 (ws.getD 0 (false,[])) else if k=8 then C6 (K4 t)::K9 (ws.getD 0 (false,[]))
 else K9 (ws.getD 0 (false,[]))++I9 o::K9 (ws.getD 1 (false,[]))
mutual
def A9:Ex->List Tok
 | .mk k o t n s _ _ l=>wr k o t n s (N8 l)
def N8:List Ex->List (Bool × List Tok)
 | []=>[]
 | x::r=>(par x.k,A9 x)::N8 r
end
def C5 (e:Ex):List Tok:=K9 (par e.k,A9 e)
theorem D9 (e:Ex):A9 e=wr e.k e.o e.t e.n e.s (N8 e.l):=by cases e;rfl
inductive Fine:Ex->Prop
 | mk {e:Ex} (h1:(D4 e).2=true) (h2:(e.l.length:Int)=(D4 e).1) (h3:∀ x ∈ e.l,Fine x):Fine e
theorem Fine.ok {e:Ex} (g:Fine e):(D4 e).2=true:=by cases g;assumption
theorem Fine.num {e:Ex} (g:Fine e):(e.l.length:Int)=(D4 e).1:=by cases g;assumption
theorem Fine.part {e x:Ex} (g:Fine e) (hx:x ∈ e.l):Fine x:=by cases g with | mk h1 h2 h3=>exact h3 x hx
theorem b1Y (e:Ex):∀ (deep left q:Int),O5 deep left e=some q->Fine e/\(a4f e:Int)=left - q:=by
 refine Ex.ind (p:=fun e=>∀ (deep left q:Int),O5 deep left e=some q->Fine e/\(a4f e:Int)=left - q) (fun e ih deep left q hq=>?_) e;rw[a2h] at hq;split at hq
 ·cases hq
 ·rename_i hh
  have hb:=b01 (by simpa using hh);have key:∀ (l:List Ex),(∀ x ∈ l,x ∈ e.l)->∀ z,Z5 (deep+1) z l=some q->(∀ x ∈ l,Fine x)/\(a2N l:Int)=z - q:=by
   intro l;induction l with
   | nil=>
    intro _ z h;cases h;exact⟨fun x hx=>(List.not_mem_nil hx).elim,by simp[a2N]⟩
   | cons x r ihr=>
    intro hm z h;unfold Z5 at h;split at h
    ·rename_i p hp
     have h1:=ih x (hm x (by simp)) _ _ _ hp;have h2:=ihr (fun y hy=>hm y (by simp[hy])) p h;refine⟨fun y hy=>?_,by unfold a2N;omega⟩;rcases List.mem_cons.1 hy with rfl | hy
     ·exact h1.1
     ·exact h2.1 y hy
    ·cases h
  have hk:=key e.l (fun _ h=>h) (left - 1) hq;have hc:=W1 e;exact⟨.mk hb.1.1 hb.2.2 hk.1,by omega⟩
theorem a5g {e:Ex} (h:M0 e=true):Fine e/\a4f e<=256:=by
 obtain⟨q,hq⟩:=Option.isSome_iff_exists.1 h;have h1:=b1Y e 1 256 q hq;have h2:=a8P e 1 256 q (by decide) hq;exact⟨h1.1,by omega⟩
theorem a0R {e:Ex} (g:Fine e):e.k=1\/e.k=2\/e.k=3\/e.k=4\/e.k=9\/e.k=5\/e.k=6\/e.k=7\/e.k=8:=by
 have h:=g.ok;unfold D4 at h;by_cases h1:e.k=1
 ·simp[h1]
 by_cases h2:e.k=2
 ·simp[h2]
 by_cases h3:e.k=3
 ·simp[h3]
 by_cases h4:e.k=4
 ·simp[h4]
 by_cases h9:e.k=9
 ·simp[h9]
 by_cases h5:e.k=5
 ·simp[h5]
 by_cases h6:e.k=6
 ·simp[h6]
 by_cases h7:e.k=7
 ·simp[h7]
 by_cases h8:e.k=8
 ·simp[h8]
 simp[h1,h2,h3,h4,h5,h6,h7,h8,h9] at h
theorem a5G {e:Ex} (hn:-2147483648<=e.n/\e.n<=2147483647) (g:Fine e) (h:e.k=3):e.n=0\/e.n=1:=by
 have h1:=g.ok;unfold D4 at h1;simp only[h] at h1;by_cases hb:a4B .i32 e.n 1=0
 ·have:=(c4f hn).1 hb
  omega
 ·simp[hb] at h1
theorem Q2 {e:Ex} (g:Fine e) (h:e.k=5\/e.k=6\/e.k=8):∃ x,e.l=[x]:=by
 have h1:=g.ok;have h2:=g.num;have:(D4 e).1=1:=by
  unfold D4 at h1 ⊢;rcases h with h | h | h <;> simp only[h] at h1 ⊢ <;> (revert h1;simp) <;> split <;> simp
 rw[this] at h2;match hl:e.l with
 | [x]=>exact⟨x,rfl⟩
 | []=>rw[hl] at h2;simp at h2
 | _::_::_=>rw[hl] at h2;simp at h2;omega
theorem a3U {e:Ex} (g:Fine e) (h:e.k=7):∃ x y,e.l=[x,y]:=by
 have h1:=g.ok;have h2:=g.num;have:(D4 e).1=2:=by
  unfold D4 at h1 ⊢;simp only[h] at h1 ⊢;revert h1
  simp;split <;> simp
 rw[this] at h2;match hl:e.l with
 | [x,y]=>exact⟨x,y,rfl⟩
 | []=>rw[hl] at h2;simp at h2
 | [_]=>rw[hl] at h2;simp at h2
 | _::_::_::_=>rw[hl] at h2;simp at h2;omega
theorem a2c (p:Bool × List Tok):(K9 p).length<=p.2.length+2:=by
 unfold K9;split <;> simp
theorem a3B (e:Ex) (g:Fine e):(A9 e).length<=5 * a4f e - 2:=by
 revert g
 refine Ex.ind (p:=fun e=>Fine e->(A9 e).length<=5 * a4f e - 2) (fun e ih g=>?_) e;rw[D9];have hc:=W1 e;rcases a0R g with h | h | h | h | h | h | h | h | h
 ·simp[wr,h];omega
 ·simp[wr,h];omega
 ·simp only[wr,h]
  simp;split <;> simp <;> omega
 ·simp[wr,h];omega
 ·simp[wr,h];omega
 ·obtain⟨x,hx⟩:=Q2 g (.inl h)
  have:=ih x (by simp[hx]) (g.part (by simp[hx]));have hcx:=W1 x;rw[hx] at hc;simp[a2N] at hc;simp[wr,h,hx,N8];omega
 ·obtain⟨x,hx⟩:=Q2 g (.inr (.inl h))
  have:=ih x (by simp[hx]) (g.part (by simp[hx]));have h2:=a2c (par x.k,A9 x);have hcx:=W1 x;rw[hx] at hc;simp[a2N] at hc;simp[wr,h,hx,N8] at h2 ⊢;omega
 ·obtain⟨x,y,hx⟩:=a3U g h
  have h1:=ih x (by simp[hx]) (g.part (by simp[hx]));have h2:=ih y (by simp[hx]) (g.part (by simp[hx]));have h3:=a2c (par x.k,A9 x);have h4:=a2c (par y.k,A9 y);have hcx:=W1 x;have hcy:=W1 y;rw[hx] at hc;simp[a2N] at hc;simp[wr,h,hx,N8] at h3 h4 ⊢;omega
 ·obtain⟨x,hx⟩:=Q2 g (.inr (.inr h))
  have:=ih x (by simp[hx]) (g.part (by simp[hx]));have h2:=a2c (par x.k,A9 x);have hcx:=W1 x;rw[hx] at hc;simp[a2N] at hc;simp[wr,h,hx,N8] at h2 ⊢;omega
end Go.Xp
namespace Go.Xp
open Go.Eng Go
open Go.Ty (Tok B2)
open Go.Lx (J4)
instance:DecidableEq Tok:=fun t u=>decidable_of_iff (Go.Ty.eqK t u=true) (Go.Ty.eqK_iff t u)
def zeroT:Tok:=⟨0,0,[],0⟩
def C7:List Tok->Tok
 | []=>zeroT
 | t::_=>if J4 t then { t with at_:=0 } else zeroT
abbrev a03:=Except Int (Ex × List Tok)
def sx (k o t n:Int) (s:B) (l:List Ex):Ex:=.mk k o t n s none 0 l
mutual
def B8:Ex->Ex
 | .mk k o t n s _ _ l=>.mk k o t n s none 0 (a9J l)
def a9J:List Ex->List Ex
 | []=>[]
 | x::r=>B8 x::a9J r
end
def opF (t:Tok):Nat->Nat->Nat
 | 0,_=>0
 | n+1,o=>if t=I9 o then o else opF t n (o+1)
def a01 (t:Tok):Nat:=if t=C6 (K4 1) then 1 else if t=C6 (K4 2) then 2 else if t=C6 (K4 3) then 3 else 0
def Q1 (ins:B->B->List Tok->a03) (ts:List Tok):a03:=
 let t:=C7 ts
 if t.kind=3 then .ok (sx 1 0 0 t.n [] [],ts.tail) else if t.kind=4 then .ok (sx 2 0 0 t.n [] [],ts.tail)
 else if t=C6 [70,65,76,83,69] then .ok (sx 3 0 0 0 [] [],ts.tail) else if t=C6 [84,82,85,69] then .ok (sx 3 0 0 1 [] [],ts.tail)
 else if t.kind=1 then (if C7 ts.tail=C1 [91] then (match ins [91] [93] ts.tail with
  | .ok (x,r)=>.ok (sx 5 0 0 0 t.text [x],r)
  | .error e=>.error e) else .ok (sx 4 0 0 0 t.text [],ts.tail))
 else if t=C1 [40] then ins [40] [41] ts else .error 100
def unQ (mk:Ex->Ex) (p:a03):a03:=match p with
 | .ok (x,r)=>.ok (mk x,r)
 | .error e=>.error e
def a0l (ins:B->B->List Tok->a03) (ts:List Tok):a03:=
 let t:=C7 ts
 if t=C6 [83,73,90,69] then (if (C7 ts.tail).kind=1 then .ok (sx 9 0 0 0 (C7 ts.tail).text [],ts.tail.tail) else .error 100)
 else if a01 t≠0 then unQ (fun x=>sx 8 0 (a01 t) 0 [] [x]) (Q1 ins ts.tail)
 else if opF t 4 23≠0 then unQ (fun x=>sx 6 (opF t 4 23) 0 0 [] [x]) (Q1 ins ts.tail)
 else match Q1 ins ts with
  | .error e=>.error e
  | .ok (a,r)=>if opF (C7 r) 22 1≠0 then unQ (fun b=>sx 7 (opF (C7 r) 22 1) 0 0 [] [a,b]) (Q1 ins r.tail) else .ok (a,r)
def S9:Nat->B->B->List Tok->a03
 | 0,_,_,_=>.error 3
 | f+1,o,s,ts=>if C7 ts=C1 o then (match a0l (S9 f) ts.tail with
  | .error e=>.error e
  | .ok (x,r)=>if C7 r=C1 s then .ok (x,r.tail) else .error 100) else .error 100
def a8A (ts:List Tok):a03:=a0l (S9 32) ts
def Q0 (ts:List Tok):Except Int (Ex × Nat):=match a8A ts with
 | .error e=>.error e
 | .ok (x,r)=>if M0 x then .ok (x,ts.length - r.length) else .error 3
theorem a3x (t:Tok) (r:List Tok):C7 (t::r)=if J4 t then { t with at_:=0 } else zeroT:=rfl
theorem b4z {ts:List Tok} (h:(C7 ts).kind≠0):ts≠[]:=by
 rintro rfl;exact h rfl
theorem b5C (l:List Ex):a9J l=l.map B8:=by
 induction l with
 | nil=>rfl
 | cons x r ih=>rw[a9J,ih];rfl
theorem b8Y (e:Ex):(B8 e).k=e.k:=by cases e;rfl
theorem U4 (s:B):(C6 s).kind=2\/(C6 s).kind=5:=by
 unfold C6;split
 ·exact .inl rfl
 ·exact .inr rfl
theorem b8Z {k:Nat} {l:List Tok} (h:l.drop k≠[]):k < l.length:=by
 rcases Nat.lt_or_ge k l.length with h1 | h1
 ·exact h1
 ·exact absurd (List.drop_eq_nil_of_le h1) h
theorem a7n {t:Tok}:∀ {n o:Nat},opF t n o≠0->t.kind≠0
 | 0,_,h=>absurd rfl h
 | n+1,o,h=>by
  unfold opF at h;split at h
  ·rename_i q
   rw[q];unfold I9;rcases U4 (a1j o).1 with h | h <;> rw[h] <;> decide
  ·exact a7n h
theorem b2m (t:Tok):∀ (n o:Nat),opF t n o≠0->o<=opF t n o/\opF t n o < o+n
 | 0,_,h=>absurd rfl h
 | n+1,o,h=>by
  unfold opF at h ⊢;split at h
  ·rename_i q
   rw[if_pos q];omega
  ·rename_i q
   rw[if_neg q];have:=b2m t n (o+1) h;omega
end Go.Xp
namespace Go.Xp
open Go.Eng Go
open Go.Ty (Tok B2)
theorem V8 (e:Ex):B8 e=.mk e.k e.o e.t e.n e.s none 0 (e.l.map B8):=by
 cases e with
 | mk k o t n s a c l=>
  rw[B8,b5C];rfl
theorem b0l (e:Ex):D4 (B8 e)=D4 e:=by rw[V8];rfl
theorem b4U (e:Ex):(B8 e).l.length=e.l.length:=by rw[V8];exact List.length_map _
theorem b1R (deep left:Int) (e:Ex):a4P deep left (B8 e)=a4P deep left e:=by
 unfold a4P;rw[b0l,b4U]
theorem b3W (e:Ex):(B8 e).l=e.l.map B8:=by rw[V8];rfl
theorem b1E (e:Ex):∀ (deep left:Int),O5 deep left (B8 e)=O5 deep left e:=by
 refine Ex.ind (p:=fun e=>∀ (deep left:Int),O5 deep left (B8 e)=O5 deep left e) (fun e ih deep left=>?_) e;rw[a2h,a2h,b1R,b3W];have key:∀ (l:List Ex),(∀ x ∈ l,x ∈ e.l)->∀ z,Z5 (deep+1) z (l.map B8)=Z5 (deep+1) z l:=by
  intro l;induction l with
  | nil=>intro _ z;rfl
  | cons x r ihr=>
   intro hm z;rw[List.map_cons];unfold Z5;rw[ih x (hm x (by simp))];split
   ·exact ihr (fun y hy=>hm y (by simp[hy])) _
   ·rfl
 rw[key e.l fun _ h=>h]
theorem P7 (e:Ex):M0 (B8 e)=M0 e:=by unfold M0;rw[b1E]
theorem b0o (e:Ex):A9 (B8 e)=A9 e:=by
 refine Ex.ind (p:=fun e=>A9 (B8 e)=A9 e) (fun e ih=>?_) e;rw[D9,D9,b3W,V8];have key:∀ (l:List Ex),(∀ x ∈ l,x ∈ e.l)->N8 (l.map B8)=N8 l:=by
  intro l;induction l with
  | nil=>intro _;rfl
  | cons x r ihr=>
   intro hm;rw[List.map_cons];unfold N8;rw[ih x (hm x (by simp)),b8Y,ihr fun y hy=>hm y (by simp[hy])]
 rw[key e.l fun _ h=>h];rfl
theorem a09 (x:Ex):∀ y:Ex,(E5 x y=true↔B8 x=B8 y):=by
 refine Ex.ind (p:=fun x=>∀ y:Ex,(E5 x y=true↔B8 x=B8 y)) (fun x ih y=>?_) x;have key:∀ (l q:List Ex),(∀ x' ∈ l,x' ∈ x.l)->l.length=q.length->(a0s l q=true↔l.map B8=q.map B8):=by
  intro l;induction l with
  | nil=>
   intro q _ hl;match q with
   | []=>simp[a0s]
   | _::_=>simp at hl
  | cons u r ihr=>
   intro q hm hl;match q with
   | []=>simp at hl
   | v::w=>
    have h1:=ih u (hm u (by simp)) v;have h2:=ihr w (fun z hz=>hm z (by simp[hz])) (by simpa using hl);unfold a0s;rw[Bool.and_eq_true,h1,h2,List.map_cons,List.map_cons,List.cons.injEq]
 rw[a7d,V8 x,V8 y];constructor
 ·intro h
  rw[Bool.and_eq_true] at h;obtain⟨hb,hl⟩:=h;unfold a81 at hb;simp only[Bool.not_eq_true',Bool.or_eq_false_iff,bne_eq_false_iff_eq] at hb;obtain⟨⟨⟨⟨⟨h1,h2⟩,h3⟩,h4⟩,h5⟩,h6⟩:=hb;have h7:=(key x.l y.l (fun _ h=>h) (by omega)).1 hl;rw[h1,h2,h3,h4,h5,h7]
 ·intro h
  injection h with h1 h2 h3 h4 h5 h6 h7 h8
  have h9:x.l.length=y.l.length:=by simpa using congrArg List.length h8
  have h10:=(key x.l y.l (fun _ h=>h) h9).2 h8;rw[h10];unfold a81;rw[h1,h2,h3,h4,h5,h9];simp
def A2:Ex:=.mk 0 0 0 0 [] none 0 []
def a7M (ts:List Tok):Ex:=match Q0 ts with
 | .ok (x,_)=>x
 | .error _=>A2
def Y3 (ts:List Tok):Nat:=match Q0 ts with
 | .ok (_,k)=>k
 | .error _=>0
def a4x (ts:List Tok):Int:=match Q0 ts with
 | .ok _=>0
 | .error e=>e
def D8 (e:Ex):List Tok:=if M0 e then A9 e else []
def a9R (e:Ex):Int:=if M0 e then 0 else 2
theorem T8 (e:Ex):D8 (B8 e)=D8 e:=by unfold D8;rw[P7,b0o]
theorem a2G (s:B):(C6 s).at_=0:=by unfold C6;split <;> rfl
end Go.Xp
end
section
namespace Go.Pc
open Go.Eng Go.Xp Go
open Go.Ty (Ty Vr I4 encV PrOk)
open Go.Lx (encB)
abbrev B:=List UInt8
structure Sli (α:Type) where
 a:Option Addr
 c:Nat
 l:List α
def Sli.v {α:Type} (s:Sli α):Value:=.slice s.a s.l.length s.c
def B7 {α:Type}:Sli α:=⟨none,0,[]⟩
structure Rp where
 name:B
 base:Ex
 count:Ex
structure Fo where
 val:Bool
 ty:Ty
 name:B
mutual
inductive Pr where
 | mk (k:Int) (name:B) (ch:Ex) (tg ex:Sli Ex) (rep:Rp) (ga:Option Addr) (gc:Nat) (gl:List Gu) (la:Option Addr) (lc:Nat) (ll:List Pr) (pn:Sli Int) (sp:Sp)
inductive Gu where
 | mk (k:Int) (name:B) (cond ch:Ex) (tg vl:Sli Ex) (time:Ex) (ba:Option Addr) (bc:Nat) (bl:List Pr)
inductive Sp where
 | mk (k:Int) (ty:Ty) (names:Sli B) (e:Ex) (cs:Bool) (vs:Sli Vr) (fs:Sli Fo) (ba:Option Addr) (bc:Nat) (bl:List Pr)
end
namespace Sp
def k:Sp->Int | mk k _ _ _ _ _ _ _ _ _=>k
def ty:Sp->Ty | mk _ t _ _ _ _ _ _ _ _=>t
def names:Sp->Sli B | mk _ _ n _ _ _ _ _ _ _=>n
def e:Sp->Ex | mk _ _ _ e _ _ _ _ _ _=>e
def cs:Sp->Bool | mk _ _ _ _ c _ _ _ _ _=>c
def vs:Sp->Sli Vr | mk _ _ _ _ _ v _ _ _ _=>v
def fs:Sp->Sli Fo | mk _ _ _ _ _ _ f _ _ _=>f
def ba:Sp->Option Addr | mk _ _ _ _ _ _ _ a _ _=>a
def bc:Sp->Nat | mk _ _ _ _ _ _ _ _ c _=>c
def bl:Sp->List Pr | mk _ _ _ _ _ _ _ _ _ l=>l
end Sp
namespace Gu
def k:Gu->Int | mk k _ _ _ _ _ _ _ _ _=>k
def name:Gu->B | mk _ n _ _ _ _ _ _ _ _=>n
def cond:Gu->Ex | mk _ _ e _ _ _ _ _ _ _=>e
def ch:Gu->Ex | mk _ _ _ e _ _ _ _ _ _=>e
def tg:Gu->Sli Ex | mk _ _ _ _ t _ _ _ _ _=>t
def vl:Gu->Sli Ex | mk _ _ _ _ _ v _ _ _ _=>v
def time:Gu->Ex | mk _ _ _ _ _ _ e _ _ _=>e
def ba:Gu->Option Addr | mk _ _ _ _ _ _ _ a _ _=>a
def bc:Gu->Nat | mk _ _ _ _ _ _ _ _ c _=>c
def bl:Gu->List Pr | mk _ _ _ _ _ _ _ _ _ l=>l
end Gu
namespace Pr
def k:Pr->Int | mk k _ _ _ _ _ _ _ _ _ _ _ _ _=>k
def name:Pr->B | mk _ n _ _ _ _ _ _ _ _ _ _ _ _=>n
def ch:Pr->Ex | mk _ _ e _ _ _ _ _ _ _ _ _ _ _=>e
def tg:Pr->Sli Ex | mk _ _ _ t _ _ _ _ _ _ _ _ _ _=>t
def ex:Pr->Sli Ex | mk _ _ _ _ e _ _ _ _ _ _ _ _ _=>e
def rep:Pr->Rp | mk _ _ _ _ _ r _ _ _ _ _ _ _ _=>r
def ga:Pr->Option Addr | mk _ _ _ _ _ _ a _ _ _ _ _ _ _=>a
def gc:Pr->Nat | mk _ _ _ _ _ _ _ c _ _ _ _ _ _=>c
def gl:Pr->List Gu | mk _ _ _ _ _ _ _ _ l _ _ _ _ _=>l
def la:Pr->Option Addr | mk _ _ _ _ _ _ _ _ _ a _ _ _ _=>a
def lc:Pr->Nat | mk _ _ _ _ _ _ _ _ _ _ c _ _ _=>c
def ll:Pr->List Pr | mk _ _ _ _ _ _ _ _ _ _ _ l _ _=>l
def pn:Pr->Sli Int | mk _ _ _ _ _ _ _ _ _ _ _ _ p _=>p
def sp:Pr->Sp | mk _ _ _ _ _ _ _ _ _ _ _ _ _ s=>s
end Pr
def a3e (n:Int):List Value:=[.int .i64 n]
theorem a7t (n:Int):(a3e n).length=1:=rfl
set_option linter.defProp false in
@[reducible,instance]def iencN_len:=Go.Eng.Ln.mk a7t (by decide)
def foE (f:Fo):List Value:=[.bool f.val,.int .u8 f.ty.kind,.int .i64 f.ty.dim,.int .u8 f.ty.item,str f.ty.proto,str f.name]
theorem a3G (f:Fo):(foE f).length=6:=rfl
set_option linter.defProp false in
@[reducible,instance]def ifoE_len:=Go.Eng.Ln.mk a3G (by decide)
def rpE (r:Rp):List Value:=[str r.name,.int .u8 r.base.k,.int .u8 r.base.o,.int .u8 r.base.t,.int .i32 r.base.n,str r.base.s,.slice r.base.a r.base.l.length r.base.c,
 .int .u8 r.count.k,.int .u8 r.count.o,.int .u8 r.count.t,.int .i32 r.count.n,str r.count.s,.slice r.count.a r.count.l.length r.count.c]
def spE (s:Sp):List Value:=[.int .u8 s.k,.int .u8 s.ty.kind,.int .i64 s.ty.dim,.int .u8 s.ty.item,str s.ty.proto,.slice s.names.a s.names.l.length s.names.c,
 .int .u8 s.e.k,.int .u8 s.e.o,.int .u8 s.e.t,.int .i32 s.e.n,str s.e.s,.slice s.e.a s.e.l.length s.e.c,.bool s.cs,.slice s.vs.a s.vs.l.length s.vs.c,.slice s.fs.a s.fs.l.length s.fs.c,.slice s.ba s.bl.length s.bc]
def guE (g:Gu):List Value:=[.int .u8 g.k,str g.name,.int .u8 g.cond.k,.int .u8 g.cond.o,.int .u8 g.cond.t,.int .i32 g.cond.n,str g.cond.s,.slice g.cond.a g.cond.l.length g.cond.c,
 .int .u8 g.ch.k,.int .u8 g.ch.o,.int .u8 g.ch.t,.int .i32 g.ch.n,str g.ch.s,.slice g.ch.a g.ch.l.length g.ch.c,.slice g.tg.a g.tg.l.length g.tg.c,.slice g.vl.a g.vl.l.length g.vl.c,
 .int .u8 g.time.k,.int .u8 g.time.o,.int .u8 g.time.t,.int .i32 g.time.n,str g.time.s,.slice g.time.a g.time.l.length g.time.c,.slice g.ba g.bl.length g.bc]
theorem a5e (g:Gu):(guE g).length=23:=rfl
set_option linter.defProp false in
@[reducible,instance]def iguE_len:=Go.Eng.Ln.mk a5e (by decide)
def prE (p:Pr):List Value:=[.int .u8 p.k,str p.name,.int .u8 p.ch.k,.int .u8 p.ch.o,.int .u8 p.ch.t,.int .i32 p.ch.n,str p.ch.s,.slice p.ch.a p.ch.l.length p.ch.c,
 .slice p.tg.a p.tg.l.length p.tg.c,.slice p.ex.a p.ex.l.length p.ex.c,
 str p.rep.name,.int .u8 p.rep.base.k,.int .u8 p.rep.base.o,.int .u8 p.rep.base.t,.int .i32 p.rep.base.n,str p.rep.base.s,.slice p.rep.base.a p.rep.base.l.length p.rep.base.c,
 .int .u8 p.rep.count.k,.int .u8 p.rep.count.o,.int .u8 p.rep.count.t,.int .i32 p.rep.count.n,str p.rep.count.s,.slice p.rep.count.a p.rep.count.l.length p.rep.count.c,
 .slice p.ga p.gl.length p.gc,.slice p.la p.ll.length p.lc,.slice p.pn.a p.pn.l.length p.pn.c,
 .int .u8 p.sp.k,.int .u8 p.sp.ty.kind,.int .i64 p.sp.ty.dim,.int .u8 p.sp.ty.item,str p.sp.ty.proto,.slice p.sp.names.a p.sp.names.l.length p.sp.names.c,
 .int .u8 p.sp.e.k,.int .u8 p.sp.e.o,.int .u8 p.sp.e.t,.int .i32 p.sp.e.n,str p.sp.e.s,.slice p.sp.e.a p.sp.e.l.length p.sp.e.c,.bool p.sp.cs,.slice p.sp.vs.a p.sp.vs.l.length p.sp.vs.c,.slice p.sp.fs.a p.sp.fs.l.length p.sp.fs.c,.slice p.sp.ba p.sp.bl.length p.sp.bc]
theorem a1B (p:Pr):(prE p).length=42:=rfl
set_option linter.defProp false in
@[reducible,instance]def iprE_len:=Go.Eng.Ln.mk a1B (by decide)
def foV (f:Fo):Value:=.agg (foE f).toArray
def rpV (r:Rp):Value:=.agg (rpE r).toArray
def spV (s:Sp):Value:=.agg (spE s).toArray
def guV (g:Gu):Value:=.agg (guE g).toArray
def prV (p:Pr):Value:=.agg (prE p).toArray
mutual
def Q8:Pr->Nat
 | .mk _ _ _ _ _ _ _ _ gl _ _ ll _ sp=>1+(O4 ll+(b0c sp+a0v gl))
def O4:List Pr->Nat
 | []=>0
 | x::r=>Q8 x+O4 r
def b2J:Gu->Nat
 | .mk _ _ _ _ _ _ _ _ _ bl=>O4 bl
def a0v:List Gu->Nat
 | []=>0
 | x::r=>b2J x+a0v r
def b0c:Sp->Nat
 | .mk _ _ _ _ _ _ _ _ _ bl=>O4 bl
end
theorem a6t (p:Pr):Q8 p=1+(O4 p.ll+(b0c p.sp+a0v p.gl)):=by cases p;rfl
theorem a6q (s:Sp):b0c s=O4 s.bl:=by cases s;rfl
theorem b03 (g:Gu):b2J g=O4 g.bl:=by cases g;rfl
theorem a3M:∀ {l:List Pr} {x:Pr},x ∈ l->Q8 x<=O4 l
 | y::r,x,h=>by
  unfold O4;rcases List.mem_cons.1 h with rfl | h
  ·omega
  ·have:=a3M h
   omega
theorem a8F:∀ {l:List Gu} {x:Gu},x ∈ l->b2J x<=a0v l
 | y::r,x,h=>by
  unfold a0v;rcases List.mem_cons.1 h with rfl | h
  ·omega
  ·have:=a8F h
   omega
theorem a5h (p:Pr):1<=Q8 p:=by rw[a6t];omega
inductive In:Pr->Pr->Prop
 | l {x p:Pr} (h:x ∈ p.ll):In x p
 | s {x p:Pr} (h:x ∈ p.sp.bl):In x p
 | g {x p:Pr} {g:Gu} (hg:g ∈ p.gl) (h:x ∈ g.bl):In x p
theorem In.lt {x p:Pr} (h:In x p):Q8 x < Q8 p:=by
 rw[a6t p];cases h with
 | l h=>have:=a3M h;omega
 | s h=>
  have:=a3M h;rw[<- a6q] at this;omega
 | g hg h=>
  have h1:=a3M h;have h2:=a8F hg;rw[<- b03] at h1;omega
theorem Pr.ind {q:Pr->Prop} (h:∀ p,(∀ x,In x p->q x)->q p) (p:Pr):q p:=by
 have key:∀ n p,Q8 p<=n->q p:=by
  intro n;induction n with
  | zero=>intro p hp;have:=a5h p;omega
  | succ n ih=>intro p hp;exact h p fun x hx=>ih x (by have:=hx.lt;omega)
 exact key (Q8 p) p (Nat.le_refl _)
structure EOk (m:View) (h:List Res) (e:Ex):Prop where
 t:TOk m h e
 w:Wf e
theorem EOk.mono {m:View} {h h':List Res} {e:Ex} (q:EOk m h e) (s:h.Sublist h'):EOk m h' e:=⟨q.t.mono s,q.w⟩
structure LOk (m:View) (h:List Res) (s:Sli Ex):Prop where
 rd:Rd m h s.a s.l.length s.c 6 (fl exE s.l)
 ok:∀ x ∈ s.l,EOk m h x
theorem LOk.mono {m:View} {h h':List Res} {s:Sli Ex} (q:LOk m h s) (r:h.Sublist h'):LOk m h' s:=⟨q.rd.mono Vl r,fun x hx=>(q.ok x hx).mono r⟩
abbrev Big:Nat:=140737488355328
structure TyW (t:Ty):Prop where
 k:0<=t.kind/\t.kind<=255
 i:0<=t.item/\t.item<=255
 d:-9223372036854775808<=t.dim/\t.dim<=9223372036854775807
 p:t.proto.length<=Big
structure FoW (f:Fo):Prop where
 t:TyW f.ty
 n:f.name.length<=Big
structure SOk (m:View) (h:List Res) (s:Sp):Prop where
 k:0<=s.k/\s.k<=255
 ty:TyW s.ty
 nr:Rd m h s.names.a s.names.l.length s.names.c 1 (fl encB s.names.l)
 nw:∀ x ∈ s.names.l,x.length<=Big
 e:EOk m h s.e
 v:PrOk m h s.vs.a s.vs.l.length s.vs.c s.vs.l
 vw:∀ x ∈ s.vs.l,x.items.length=x.n
 fr:Rd m h s.fs.a s.fs.l.length s.fs.c 6 (fl foE s.fs.l)
 fw:∀ x ∈ s.fs.l,FoW x
 b:Rd m h s.ba s.bl.length s.bc 42 (fl prE s.bl)
structure GOk (m:View) (h:List Res) (g:Gu):Prop where
 k:0<=g.k/\g.k<=255
 n:g.name.length<=Big
 cond:EOk m h g.cond
 ch:EOk m h g.ch
 tg:LOk m h g.tg
 vl:LOk m h g.vl
 time:EOk m h g.time
 b:Rd m h g.ba g.bl.length g.bc 42 (fl prE g.bl)
structure P1 (m:View) (h:List Res) (p:Pr):Prop where
 k:0<=p.k/\p.k<=255
 n:p.name.length<=Big
 ch:EOk m h p.ch
 tg:LOk m h p.tg
 ex:LOk m h p.ex
 rn:p.rep.name.length<=Big
 rb:EOk m h p.rep.base
 rc:EOk m h p.rep.count
 g:Rd m h p.ga p.gl.length p.gc 23 (fl guE p.gl)
 gs:∀ x ∈ p.gl,GOk m h x
 l:Rd m h p.la p.ll.length p.lc 42 (fl prE p.ll)
 pn:Rd m h p.pn.a p.pn.l.length p.pn.c 1 (fl a3e p.pn.l)
 pw:∀ x ∈ p.pn.l,-9223372036854775808<=x/\x<=9223372036854775807
 sp:SOk m h p.sp
inductive POk (m:View) (h:List Res):Pr->Prop
 | mk {p:Pr} (o:P1 m h p) (s:∀ x,In x p->POk m h x):POk m h p
theorem POk.own {m:View} {h:List Res} {p:Pr} (q:POk m h p):P1 m h p:=by cases q;assumption
theorem POk.sub {m:View} {h:List Res} {p x:Pr} (q:POk m h p) (hx:In x p):POk m h x:=by cases q with | mk o s=>exact s x hx
theorem SOk.mono {m:View} {h h':List Res} {s:Sp} (q:SOk m h s) (r:h.Sublist h'):SOk m h' s:=
 ⟨q.k,q.ty,q.nr.mono Vl r,q.nw,q.e.mono r,q.v.mono Vl r,q.vw,q.fr.mono Vl r,q.fw,q.b.mono Vl r⟩
theorem GOk.mono {m:View} {h h':List Res} {g:Gu} (q:GOk m h g) (r:h.Sublist h'):GOk m h' g:=
 ⟨q.k,q.n,q.cond.mono r,q.ch.mono r,q.tg.mono r,q.vl.mono r,q.time.mono r,q.b.mono Vl r⟩
theorem P1.mono {m:View} {h h':List Res} {p:Pr} (q:P1 m h p) (r:h.Sublist h'):P1 m h' p:=
 ⟨q.k,q.n,q.ch.mono r,q.tg.mono r,q.ex.mono r,q.rn,q.rb.mono r,q.rc.mono r,q.g.mono Vl r,fun x hx=>(q.gs x hx).mono r,q.l.mono Vl r,q.pn.mono Vl r,q.pw,q.sp.mono r⟩
theorem POk.mono {m:View} {h h':List Res} {p:Pr} (q:POk m h p) (r:h.Sublist h'):POk m h' p:=by
 induction q with
 | mk o _ ih=>exact .mk (o.mono r) ih
end Go.Pc
end
namespace Go.Pc
section
open Go.Eng Go.Xp Go
open Go.Ty (Ty Vr)
def Y0 (e:Ex):Bool:=E5 e A2
def N7 (e:Ex):Bool:=((e.k==4)||(e.k==5))&&M0 e
def b2T (a b:Int) (n:Int):Bool:=decide (n >= a)&&decide (n<=b)
def a0G {α:Type} (l:List α) (a b:Int) (q:α->Bool):Bool:=b2T a b l.length&&!(l.any fun x=>!q x)
structure Us where
 rep:Bool
 name:Bool
 chan:Bool
 spec:Bool
 procs:Bool
 t0:Int
 t1:Int
 e0:Int
 e1:Int
 p0:Int
 p1:Int
 g0:Int
 g1:Int
 lo:Int
 hi:Int
def usE (u:Us):List Value:=[.bool u.rep,.bool u.name,.bool u.chan,.bool u.spec,.bool u.procs,.int .i64 u.t0,.int .i64 u.t1,.int .i64 u.e0,.int .i64 u.e1,.int .i64 u.p0,.int .i64 u.p1,.int .i64 u.g0,.int .i64 u.g1,.int .u8 u.lo,.int .u8 u.hi]
def us0:Us:=⟨false,false,false,false,false,0,0,0,0,0,0,0,0,0,0⟩
def C0 (k:Int):Us × Bool:=
 if k=1 then (us0,true) else if k=2 then (us0,true)
 else if k=3 then ({ us0 with t0:=1,t1:=8,e0:=1,e1:=8 },true)
 else if k=4 then ({ us0 with chan:=true,t0:=1,t1:=8 },true)
 else if k=5 then ({ us0 with chan:=true,e0:=1,e1:=9 },true)
 else if k=6 then ({ us0 with chan:=true,e0:=1,e1:=1 },true)
 else if k=7 then ({ us0 with chan:=true,g0:=1,g1:=16,lo:=7,hi:=7 },true)
 else if k=8 then ({ us0 with rep:=true,p0:=0,p1:=2048 },true) else if k=9 then ({ us0 with rep:=true,p0:=0,p1:=2048 },true)
 else if k=10 then ({ us0 with p0:=2,p1:=2 },true)
 else if k=11 then ({ us0 with procs:=true,p0:=1,p1:=8 },true)
 else if k=12 then ({ us0 with rep:=true,g0:=0,g1:=16,lo:=2,hi:=4 },true) else if k=13 then ({ us0 with rep:=true,g0:=0,g1:=16,lo:=2,hi:=4 },true)
 else if k=14 then ({ us0 with rep:=true,g0:=0,g1:=16,lo:=1,hi:=1 },true)
 else if k=15 then ({ us0 with e0:=1,e1:=1,g0:=0,g1:=16,lo:=5,hi:=6 },true)
 else if k=16 then ({ us0 with e0:=1,e1:=1,p0:=1,p1:=1 },true)
 else if k=17 then ({ us0 with name:=true,e0:=0,e1:=8 },true)
 else if k=18 then ({ us0 with spec:=true,p0:=1,p1:=1 },true)
 else (us0,false)
def a1A (t:Ty):Bool:=Go.Ty.may t&&(t.dim==0)&&decide (t.kind<=3)
def a4D (r:Rp):Bool:=if r.name==[] then Y0 r.base&&Y0 r.count else Go.Lx.name r.name&&M0 r.base&&M0 r.count
def foP (f:Fo):Bool:=Go.Lx.name f.name&&Go.Ty.may f.ty&&(!f.val||a1A f.ty)
def a2Z (u a z:Bool):Bool:=if u then a else z
def a7P (g:Gu):Bool:=if (g.k==3)||(g.k==4) then M0 g.cond||Y0 g.cond else M0 g.cond
def guP (g:Gu):Bool:=
 (g.k != 0)&&decide (g.k<=7)&&((g.bl.length:Int)==1) &&
 a2Z ((g.k==1)||(g.k==2)||(g.k==3)||(g.k==4)) (a7P g) (Y0 g.cond) &&
 a2Z (g.k==7) (Go.Lx.name g.name) (g.name==[]) &&
 a2Z ((g.k==3)||(g.k==4)) (N7 g.ch) (Y0 g.ch) &&
 a2Z (g.k==4) (M0 g.time) (Y0 g.time) &&
 a0G g.tg.l (if g.k=3 then 1 else 0) (if g.k=3 then 8 else if g.k=7 then 8 else 0) N7&&a0G g.vl.l (if g.k=5 then 1 else 0) (if g.k=5 then 8 else 0) M0
def a1p (f g:Fo):Bool:=(f.val==g.val)&&(Go.Ty.eqT f.ty g.ty&&((f.name==g.name)&&true))
def R5 (x y:Vr):Bool:=(x.tag==y.tag)&&(x.items==y.items)
def Y8 (a b:Sp):Bool:=((((((((a.k==b.k)&&Go.Ty.eqT a.ty b.ty)&&(a.names.l==b.names.l))&&E5 a.e b.e)&&(a.cs==b.cs))&&eqL R5 a.vs.l b.vs.l)&&eqL a1p a.fs.l b.fs.l)&&((a.bl.length:Int)==b.bl.length))
def a2K (s:Sp):Sp:=
 if s.k=1 then .mk s.k s.ty s.names A2 false B7 B7 none 0 []
 else if s.k=2 then .mk s.k s.ty s.names s.e false B7 B7 none 0 []
 else if s.k=3 then .mk s.k s.ty s.names s.e false B7 B7 none 0 []
 else if s.k=4 then .mk s.k Go.Ty.zeroT s.names A2 s.cs s.vs B7 none 0 []
 else .mk s.k Go.Ty.zeroT s.names A2 false B7 s.fs s.ba s.bc s.bl
def a2j (s:Sp):Bool:=
 if s.k=1 then Go.Ty.may s.ty
 else if s.k=2 then a1A s.ty&&M0 s.e
 else if s.k=3 then a1A s.ty&&N7 s.e
 else if s.k=4 then Go.Ty.mayPr s.cs s.vs.l
 else ((s.bl.length:Int)==1)&&a0G s.fs.l 0 8 foP
def spP (s:Sp):Bool:=
 if 1<=s.k/\s.k<=5 then a2j s&&a0G s.names.l 1 (if s.k=1 then 8 else 1) Go.Lx.name&&Y8 s (a2K s) else false
def D2:Sp:=.mk 0 Go.Ty.zeroT B7 A2 false B7 B7 none 0 []
def inG (u:Us) (g:Gu):Bool:=decide (g.k >= u.lo)&&decide (g.k<=u.hi)&&guP g
def b6W (u:Us):Bool:=(u.p0==0)&&(u.p1==2048)
def b6z (u:Us):Us:=if b6W u then { u with p0:=1,p1:=1 } else { u with g0:=1,g1:=1 }
def V0 (p:Pr) (u:Us):Bool:=
 b2T u.p0 u.p1 p.ll.length&&a0G p.gl u.g0 u.g1 (inG u) &&
 a2Z u.name (Go.Lx.name p.name) (p.name==[]) &&
 a2Z u.chan (N7 p.ch) (Y0 p.ch) &&
 a0G p.tg.l u.t0 u.t1 N7&&a0G p.ex.l u.e0 u.e1 M0 &&
 a0G p.pn.l (if u.procs then (p.ll.length:Int) else 0) (if u.procs then (p.ll.length:Int) else 0) (fun n=>decide (n >= 0)&&decide (n < 8)) &&
 ((u.spec&&spP p.sp)||(!u.spec&&(Y8 p.sp D2)))
def Q7 (p:Pr):Bool:=
 if !(C0 p.k).2||!a4D p.rep then false
 else if p.rep.name != [] then (if !(C0 p.k).1.rep then false else V0 p (b6z (C0 p.k).1)) else V0 p (C0 p.k).1
end
section
open Go.Eng Go.Xp Go
open Go.Ty (Ty Vr)
theorem T0 {α:Type} {l:List α} {a b:Int} {q:α->Bool} (h:a0G l a b q=true):(∀ x ∈ l,q x=true)/\a<=l.length/\(l.length:Int)<=b:=by
 unfold a0G b2T at h;simp only[Bool.and_eq_true,decide_eq_true_eq,Bool.not_eq_true',List.any_eq_false] at h;exact⟨fun x hx=>by have:=h.2 x hx;simpa using this,h.1.1,h.1.2⟩
theorem c2M {e:Ex} (h:N7 e=true):e.k=4\/e.k=5:=by
 unfold N7 at h;simp only[Bool.and_eq_true,Bool.or_eq_true,beq_iff_eq] at h;exact h.1
structure Pl (p:Pr):Prop where
 kd:(C0 p.k).2=true
 rep:a4D p.rep=true
 ch:(C0 p.k).1.chan=true->N7 p.ch=true
 nc:(C0 p.k).1.chan=false->Y0 p.ch=true
 tg:∀ x ∈ p.tg.l,N7 x=true
 ex:∀ x ∈ p.ex.l,M0 x=true
 tn:(C0 p.k).1.t0<=p.tg.l.length/\(p.tg.l.length:Int)<=(C0 p.k).1.t1
 en:(C0 p.k).1.e0<=p.ex.l.length/\(p.ex.l.length:Int)<=(C0 p.k).1.e1
 gs:∀ g ∈ p.gl,guP g=true/\(C0 p.k).1.lo<=g.k/\g.k<=(C0 p.k).1.hi
 gn:p.rep.name=[]->(C0 p.k).1.g0<=p.gl.length/\(p.gl.length:Int)<=(C0 p.k).1.g1
 pn:p.rep.name=[]->(C0 p.k).1.p0<=p.ll.length/\(p.ll.length:Int)<=(C0 p.k).1.p1
 rp:p.rep.name≠[]->(C0 p.k).1.rep=true
 sp:(C0 p.k).1.spec=true->spP p.sp=true
 ns:(C0 p.k).1.spec=false->Y8 p.sp D2=true
theorem plU {p:Pr} {u:Us} (h:V0 p u=true):((b2T u.p0 u.p1 p.ll.length=true/\a0G p.gl u.g0 u.g1 (inG u)=true)/\a2Z u.chan (N7 p.ch) (Y0 p.ch)=true)/\(a0G p.tg.l u.t0 u.t1 N7=true/\a0G p.ex.l u.e0 u.e1 M0=true)/\((u.spec&&spP p.sp)||(!u.spec&&(Y8 p.sp D2)))=true:=by
 unfold V0 at h;simp only[Bool.and_eq_true] at h;obtain⟨⟨⟨⟨⟨⟨⟨h1,h2⟩,h3⟩,h4⟩,h5⟩,h6⟩,h7⟩,h8⟩:=h;exact⟨⟨⟨h1,h2⟩,h4⟩,⟨h5,h6⟩,h8⟩
theorem b6P {u:Us} {g:Gu} (h:inG u g=true):guP g=true/\u.lo<=g.k/\g.k<=u.hi:=by
 unfold inG at h;simp only[Bool.and_eq_true,decide_eq_true_eq] at h;exact⟨h.2,h.1.1,h.1.2⟩
theorem b5E {a b n:Int} (h:b2T a b n=true):a<=n/\n<=b:=by
 unfold b2T at h;simp only[Bool.and_eq_true,decide_eq_true_eq] at h;exact h
theorem a4y {p:Pr} (h:Q7 p=true):Pl p:=by
 unfold Q7 at h;split at h
 ·cases h
 ·rename_i h0
  have h1:(C0 p.k).2=true/\a4D p.rep=true:=by
   cases h2:(C0 p.k).2 <;> cases h3:a4D p.rep <;> simp_all
  have key:∀ u:Us,V0 p u=true->u.chan=(C0 p.k).1.chan->u.spec=(C0 p.k).1.spec->u.t0=(C0 p.k).1.t0->u.t1=(C0 p.k).1.t1->u.e0=(C0 p.k).1.e0->u.e1=(C0 p.k).1.e1->u.lo=(C0 p.k).1.lo->u.hi=(C0 p.k).1.hi ->
   (p.rep.name=[]->u=(C0 p.k).1)->(p.rep.name≠[]->(C0 p.k).1.rep=true)->Pl p:=by
   intro u hu e1 e2 e3 e4 e5 e6 e7 e8 e9 e10;obtain⟨⟨⟨q1,q2⟩,q3⟩,⟨q4,q5⟩,q6⟩:=plU hu;obtain⟨g1,g2,g3⟩:=T0 q2;obtain⟨t1,t2,t3⟩:=T0 q4;obtain⟨x1,x2,x3⟩:=T0 q5;refine⟨h1.1,h1.2,fun hc=>?_,fun hc=>?_,t1,x1,⟨e3 ▸ t2,e4 ▸ t3⟩,⟨e5 ▸ x2,e6 ▸ x3⟩,fun g hg=>?_,fun hr=>?_,fun hr=>?_,e10,fun hc=>?_,fun hc=>?_⟩
   ·rw[e1,hc] at q3;exact q3
   ·rw[e1,hc] at q3;exact q3
   ·have:=b6P (g1 g hg)
    rw[e7,e8] at this;exact this
   ·rw[e9 hr] at g2 g3;exact⟨g2,g3⟩
   ·rw[e9 hr] at q1;exact b5E q1
   ·rw[e2,hc] at q6;simpa using q6
   ·rw[e2,hc] at q6;simpa using q6
  split at h
  ·rename_i hr
   have hr':p.rep.name≠[]:=by simpa using hr
   split at h
   ·cases h
   ·rename_i h4
    have h5:(C0 p.k).1.rep=true:=by simpa using h4
    unfold b6z at h;split at h
    ·exact key _ h rfl rfl rfl rfl rfl rfl rfl rfl (fun q=>absurd q hr') (fun _=>h5)
    ·exact key _ h rfl rfl rfl rfl rfl rfl rfl rfl (fun q=>absurd q hr') (fun _=>h5)
  ·rename_i hr
   have hr':p.rep.name=[]:=by simpa using hr
   exact key _ h rfl rfl rfl rfl rfl rfl rfl rfl (fun _=>rfl) (fun q=>absurd hr' q)
structure GuV (g:Gu):Prop where
 body:g.bl.length=1
 cond:1<=g.k->g.k<=4->M0 g.cond=true\/Y0 g.cond=true
 ch:g.k=3\/g.k=4->N7 g.ch=true
 time:g.k=4->M0 g.time=true
 tg:∀ x ∈ g.tg.l,N7 x=true
 vl:∀ x ∈ g.vl.l,M0 x=true
theorem b3k {g:Gu} (h:guP g=true):GuV g:=by
 unfold guP at h;simp only[Bool.and_eq_true] at h;obtain⟨⟨⟨⟨⟨⟨⟨⟨h1,h2⟩,h3⟩,h4⟩,h5⟩,h6⟩,h7⟩,h8⟩,h9⟩:=h;refine⟨by simp only[beq_iff_eq] at h3;omega,fun a b=>?_,fun a=>?_,fun a=>?_,(T0 h8).1,(T0 h9).1⟩
 ·have hk:((g.k==1)||(g.k==2)||(g.k==3)||(g.k==4))=true:=by
   have:g.k=1\/g.k=2\/g.k=3\/g.k=4:=by omega
   rcases this with q | q | q | q <;> rw[q] <;> rfl
  rw[hk] at h4;replace h4:a7P g=true:=h4;unfold a7P at h4;split at h4
  ·simp only[Bool.or_eq_true] at h4;exact h4
  ·exact .inl h4
 ·have hk:((g.k==3)||(g.k==4))=true:=by rcases a with q | q <;> rw[q] <;> rfl
  rw[hk] at h6;exact h6
 ·have hk:(g.k==4)=true:=by rw[a];rfl
  rw[hk] at h7;exact h7
structure SpV (s:Sp):Prop where
 kd:1<=s.k/\s.k<=5
 ev:s.k=2->M0 s.e=true
 es:s.k=3->N7 s.e=true
 body:s.k=5->s.bl.length=1
 fs:s.k=5->s.fs.l.length<=8
theorem c0s {s:Sp} (h:spP s=true):SpV s:=by
 unfold spP at h;split at h
 ·rename_i hk
  simp only[Bool.and_eq_true] at h;have hf:=h.1.1;unfold a2j at hf;refine⟨hk,fun e=>?_,fun e=>?_,fun e=>?_,fun e=>?_⟩
  ·rw[if_neg (by omega),if_pos e] at hf
   simp only[Bool.and_eq_true] at hf;exact hf.2
  ·rw[if_neg (by omega),if_neg (by omega),if_pos e] at hf
   simp only[Bool.and_eq_true] at hf;exact hf.2
  ·rw[if_neg (by omega),if_neg (by omega),if_neg (by omega),if_neg (by omega)] at hf
   simp only[Bool.and_eq_true,beq_iff_eq] at hf;omega
  ·rw[if_neg (by omega),if_neg (by omega),if_neg (by omega),if_neg (by omega)] at hf
   simp only[Bool.and_eq_true,beq_iff_eq] at hf;have:=(T0 hf.2).2.2;omega
 ·cases h
inductive Vld:Pr->Prop
 | mk {p:Pr} (h:Q7 p=true) (s:∀ x,In x p->Vld x):Vld p
theorem Vld.own {p:Pr} (q:Vld p):Pl p:=by cases q with | mk h _=>exact a4y h
theorem Vld.sub {p x:Pr} (q:Vld p) (hx:In x p):Vld x:=by cases q with | mk _ s=>exact s x hx
end
section
open Go.Eng Go.Xp Go
open Go.Ty (Ty Vr)
def a0g (p:Pr) (d:Int) (pl:Bool) (left:Int):Bool:=((decide (left - 1 < 0)||decide (d > 32))||!Q7 p)||((p.k==11)&&!pl)
mutual
def J8:Pr->Int->Bool->Int->Bool × Int
 | .mk k name ch tg ex rep ga gc gl la lc ll pn sp,d,pl,left=>
  if a0g (.mk k name ch tg ex rep ga gc gl la lc ll pn sp) d pl left then (false,left - 1)
  else if k=18 then
   (if (Z9 sp d (left - 1)).1 then
    (if (X3 ll d pl (Z9 sp d (left - 1)).2).1 then a1T gl (d+2) (X3 ll d pl (Z9 sp d (left - 1)).2).2 else X3 ll d pl (Z9 sp d (left - 1)).2)
   else Z9 sp d (left - 1))
  else if (X3 ll (if k=11 then d+2 else d+1) false (left - 1)).1 then a1T gl (d+2) (X3 ll (if k=11 then d+2 else d+1) false (left - 1)).2
  else X3 ll (if k=11 then d+2 else d+1) false (left - 1)
def X3:List Pr->Int->Bool->Int->Bool × Int
 | [],_,_,q=>(true,q)
 | x::r,d,pl,q=>if (J8 x d pl q).1 then X3 r d pl (J8 x d pl q).2 else J8 x d pl q
def a46:List Pr->Int->Int->Bool × Int
 | [],_,q=>(true,q)
 | x::_,d,q=>J8 x d false q
def a1n:Gu->Int->Int->Bool × Int
 | .mk _ _ _ _ _ _ _ _ _ bl,d,q=>a46 bl d q
def a1T:List Gu->Int->Int->Bool × Int
 | [],_,q=>(true,q)
 | g::r,d,q=>if (a1n g d q).1 then a1T r d (a1n g d q).2 else a1n g d q
def Z9:Sp->Int->Int->Bool × Int
 | .mk _ _ _ _ cs _ _ _ _ bl,d,q=>if cs&&decide (d+2 > 32) then (false,q) else a46 bl (d+1) q
end
theorem a6n (p:Pr) (d:Int) (pl:Bool) (left:Int):J8 p d pl left =
 if a0g p d pl left then (false,left - 1)
 else if p.k=18 then
  (if (Z9 p.sp d (left - 1)).1 then
   (if (X3 p.ll d pl (Z9 p.sp d (left - 1)).2).1 then a1T p.gl (d+2) (X3 p.ll d pl (Z9 p.sp d (left - 1)).2).2 else X3 p.ll d pl (Z9 p.sp d (left - 1)).2)
  else Z9 p.sp d (left - 1))
 else if (X3 p.ll (if p.k=11 then d+2 else d+1) false (left - 1)).1 then a1T p.gl (d+2) (X3 p.ll (if p.k=11 then d+2 else d+1) false (left - 1)).2
 else X3 p.ll (if p.k=11 then d+2 else d+1) false (left - 1):=by cases p;rfl
theorem a5i (g:Gu) (d q:Int):a1n g d q=a46 g.bl d q:=by cases g;rfl
theorem a6u (s:Sp) (d q:Int):Z9 s d q=if s.cs&&decide (d+2 > 32) then (false,q) else a46 s.bl (d+1) q:=by cases s;rfl
def mayP (p:Pr):Bool:=(J8 p 0 true 2048).1
theorem c0M {s:Sp} (h:spP s=true):s.bl.length<=1:=by
 have hV:=c0s h;by_cases h5:s.k=5
 ·have:=hV.body h5;omega
 ·unfold spP at h
  rw[if_pos hV.kd] at h;simp only[Bool.and_eq_true] at h;have h2:=h.2;unfold Y8 at h2;simp only[Bool.and_eq_true,beq_iff_eq] at h2;have h3:=h2.2;have hw:(a2K s).bl.length=0:=by
   unfold a2K;split
   ·rfl
   split
   ·rfl
   split
   ·rfl
   split
   ·rfl
   ·have:=hV.kd
    omega
  omega
theorem c0T {s:Sp} (h:Y8 s D2=true):s.bl=[]:=by
 unfold Y8 at h;simp only[Bool.and_eq_true,beq_iff_eq] at h;have h3:(s.bl.length:Int)=0:=h.2;exact List.eq_nil_of_length_eq_zero (by omega)
theorem b0Z {k:Int} (h:k≠18):(C0 k).1.spec=false:=by
 unfold C0;by_cases h1:k=1
 ·rw[if_pos h1];rfl
 rw[if_neg h1];by_cases h2:k=2
 ·rw[if_pos h2];rfl
 rw[if_neg h2];by_cases h3:k=3
 ·rw[if_pos h3];rfl
 rw[if_neg h3];by_cases h4:k=4
 ·rw[if_pos h4];rfl
 rw[if_neg h4];by_cases h5:k=5
 ·rw[if_pos h5];rfl
 rw[if_neg h5];by_cases h6:k=6
 ·rw[if_pos h6];rfl
 rw[if_neg h6];by_cases h7:k=7
 ·rw[if_pos h7];rfl
 rw[if_neg h7];by_cases h8:k=8
 ·rw[if_pos h8];rfl
 rw[if_neg h8];by_cases h9:k=9
 ·rw[if_pos h9];rfl
 rw[if_neg h9];by_cases h10:k=10
 ·rw[if_pos h10];rfl
 rw[if_neg h10];by_cases h11:k=11
 ·rw[if_pos h11];rfl
 rw[if_neg h11];by_cases h12:k=12
 ·rw[if_pos h12];rfl
 rw[if_neg h12];by_cases h13:k=13
 ·rw[if_pos h13];rfl
 rw[if_neg h13];by_cases h14:k=14
 ·rw[if_pos h14];rfl
 rw[if_neg h14];by_cases h15:k=15
 ·rw[if_pos h15];rfl
 rw[if_neg h15];by_cases h16:k=16
 ·rw[if_pos h16];rfl
 rw[if_neg h16];by_cases h17:k=17
 ·rw[if_pos h17];rfl
 rw[if_neg h17];rw[if_neg h];rfl
theorem b0s {p:Pr} {d left:Int} {pl:Bool} (h:a0g p d pl left=false):(0<=left - 1/\d<=32)/\Q7 p=true:=by
 unfold a0g at h;simp only[Bool.or_eq_false_iff,decide_eq_false_iff_not,Bool.not_eq_false'] at h;exact⟨⟨by omega,by omega⟩,h.1.2⟩
def Cnt (n:Nat) (q:Int) (r:Bool × Int):Prop:=r.1=true->(n:Int)=q - r.2/\0<=r.2
theorem a7G {l:List Pr} {d q:Int} (hq:0<=q) (hl:l.length<=1) (ih:∀ x ∈ l,∀ d pl q,0<=q->(J8 x d pl q).1=true->Vld x/\Cnt (Q8 x) q (J8 x d pl q)) (h:(a46 l d q).1=true):(∀ x ∈ l,Vld x)/\(O4 l:Int)=q - (a46 l d q).2/\0<=(a46 l d q).2:=by
 match l,hl with
 | [],_=>exact⟨fun x hx=>(by cases hx),by show((0:Nat):Int)=q - q;omega,hq⟩
 | [x],_=>
  have h':(J8 x d false q).1=true:=h;obtain⟨h1,h2⟩:=ih x (List.Mem.head _) d false q hq h';obtain⟨h3,h4⟩:=h2 h';refine⟨fun y hy=>by cases List.mem_singleton.1 hy;exact h1,?_,h4⟩;show((Q8 x+0:Nat):Int)=_;rw[Nat.add_zero];exact h3
theorem a6V {d:Int} {pl:Bool}:∀ {l:List Pr} {q:Int},0<=q->(∀ x ∈ l,∀ d pl q,0<=q->(J8 x d pl q).1=true->Vld x/\Cnt (Q8 x) q (J8 x d pl q))->(X3 l d pl q).1=true->(∀ x ∈ l,Vld x)/\(O4 l:Int)=q - (X3 l d pl q).2/\0<=(X3 l d pl q).2
 | [],q,hq,_,_=>⟨fun x hx=>(by cases hx),by show((0:Nat):Int)=q - q;omega,hq⟩
 | x::r,q,hq,ih,h=>by
  have e:X3 (x::r) d pl q=if (J8 x d pl q).1 then X3 r d pl (J8 x d pl q).2 else J8 x d pl q:=rfl
  rw[e] at h ⊢;cases hc:(J8 x d pl q).1 with
  | false=>rw[hc,if_neg (by decide)] at h;rw[hc] at h;cases h
  | true=>
   rw[hc,if_pos rfl] at h;rw[if_pos rfl];obtain⟨h1,h2⟩:=ih x (List.Mem.head _) d pl q hq hc;obtain⟨h3,h4⟩:=h2 hc;obtain⟨h5,h6,h7⟩:=a6V h4 (fun y hy=>ih y (List.Mem.tail _ hy)) h;refine⟨fun y hy=>?_,?_,h7⟩
   ·rcases List.mem_cons.1 hy with rfl | hy
    ·exact h1
    ·exact h5 y hy
   ·show((Q8 x+O4 r:Nat):Int)=_
    omega
theorem a7Y {d:Int}:∀ {l:List Gu} {q:Int},0<=q->(∀ g ∈ l,g.bl.length<=1)->(∀ g ∈ l,∀ x ∈ g.bl,∀ d pl q,0<=q->(J8 x d pl q).1=true->Vld x/\Cnt (Q8 x) q (J8 x d pl q))->(a1T l d q).1=true->(∀ g ∈ l,∀ x ∈ g.bl,Vld x)/\(a0v l:Int)=q - (a1T l d q).2/\0<=(a1T l d q).2
 | [],q,hq,_,_,_=>⟨fun x hx=>(by cases hx),by show((0:Nat):Int)=q - q;omega,hq⟩
 | g::r,q,hq,hb,ih,h=>by
  have e:a1T (g::r) d q=if (a1n g d q).1 then a1T r d (a1n g d q).2 else a1n g d q:=rfl
  rw[e,a5i] at h ⊢;cases hc:(a46 g.bl d q).1 with
  | false=>rw[hc,if_neg (by decide)] at h;rw[hc] at h;cases h
  | true=>
   rw[hc,if_pos rfl] at h;rw[if_pos rfl];obtain⟨h1,h3,h4⟩:=a7G hq (hb g (List.Mem.head _)) (ih g (List.Mem.head _)) hc;obtain⟨h5,h6,h7⟩:=a7Y h4 (fun g' hg=>hb g' (List.Mem.tail _ hg)) (fun g' hg=>ih g' (List.Mem.tail _ hg)) h;refine⟨fun y hy=>?_,?_,h7⟩
   ·rcases List.mem_cons.1 hy with rfl | hy
    ·exact h1
    ·exact h5 y hy
   ·show((b2J g+a0v r:Nat):Int)=_
    rw[b03];omega
theorem a7g (p:Pr):∀ (d:Int) (pl:Bool) (q:Int),0<=q->(J8 p d pl q).1=true->Vld p/\Cnt (Q8 p) q (J8 p d pl q):=by
 refine Pr.ind (q:=fun p=>∀ (d:Int) (pl:Bool) (q:Int),0<=q->(J8 p d pl q).1=true->Vld p/\Cnt (Q8 p) q (J8 p d pl q)) (fun p ih d pl q hq h=>?_) p;have e:=a6n p d pl q;cases hh:a0g p d pl q with
 | true=>rw[hh,if_pos rfl] at e;rw[e] at h;cases h
 | false=>
  rw[hh,if_neg (by decide)] at e;obtain⟨⟨h0,_⟩,hpl⟩:=b0s hh;have hV:=a4y hpl;have hgb:∀ g ∈ p.gl,g.bl.length<=1:=fun g hg=>by have:=(b3k (hV.gs g hg).1).body;omega
  have ihL:∀ x ∈ p.ll,∀ d pl q,0<=q->(J8 x d pl q).1=true->Vld x/\Cnt (Q8 x) q (J8 x d pl q):=fun x hx=>ih x (In.l hx)
  have ihG:∀ g ∈ p.gl,∀ x ∈ g.bl,∀ d pl q,0<=q->(J8 x d pl q).1=true->Vld x/\Cnt (Q8 x) q (J8 x d pl q):=fun g hg x hx=>ih x (In.g hg hx)
  have ihS:∀ x ∈ p.sp.bl,∀ d pl q,0<=q->(J8 x d pl q).1=true->Vld x/\Cnt (Q8 x) q (J8 x d pl q):=fun x hx=>ih x (In.s hx)
  have mk:(∀ x ∈ p.ll,Vld x)->(∀ g ∈ p.gl,∀ x ∈ g.bl,Vld x)->(∀ x ∈ p.sp.bl,Vld x)->Vld p:=fun a b c=>.mk hpl fun x hx=>by
   cases hx with
   | l h=>exact a x h
   | s h=>exact c x h
   | g hg h=>exact b _ hg x h
  have hcp:=a6t p;by_cases h18:p.k=18
  ·rw[if_pos h18] at e
   have hsl:p.sp.bl.length<=1:=c0M (hV.sp (by rw[h18];rfl));cases hS:(Z9 p.sp d (q - 1)).1 with
   | false=>rw[hS,if_neg (by decide)] at e;rw[e,hS] at h;cases h
   | true=>
    rw[hS,if_pos rfl] at e;have hSS:(∀ x ∈ p.sp.bl,Vld x)/\(O4 p.sp.bl:Int)=(q - 1) - (Z9 p.sp d (q - 1)).2/\0<=(Z9 p.sp d (q - 1)).2:=by
     rw[a6u] at hS ⊢;split at hS
     ·cases hS
     ·rename_i hc
      rw[if_neg hc];exact a7G h0 hsl ihS hS
    obtain⟨s1,s2,s3⟩:=hSS;cases hL:(X3 p.ll d pl (Z9 p.sp d (q - 1)).2).1 with
    | false=>rw[hL,if_neg (by decide)] at e;rw[e,hL] at h;cases h
    | true=>
     rw[hL,if_pos rfl] at e;obtain⟨l1,l2,l3⟩:=a6V s3 ihL hL;rw[e] at h;obtain⟨g1,g2,g3⟩:=a7Y l3 hgb ihG h;refine⟨mk l1 g1 s1,fun _=>?_⟩;rw[e];rw[a6q] at hcp;exact⟨by omega,g3⟩
  ·rw[if_neg h18] at e
   have hsn:p.sp.bl=[]:=by
    have hsp:(C0 p.k).1.spec=false:=b0Z h18;exact c0T (hV.ns hsp)
   cases hL:(X3 p.ll (if p.k=11 then d+2 else d+1) false (q - 1)).1 with
   | false=>rw[hL,if_neg (by decide)] at e;rw[e,hL] at h;cases h
   | true=>
    rw[hL,if_pos rfl] at e;obtain⟨l1,l2,l3⟩:=a6V h0 ihL hL;rw[e] at h;obtain⟨g1,g2,g3⟩:=a7Y l3 hgb ihG h;refine⟨mk l1 g1 (by rw[hsn];intro x hx;cases hx),fun _=>?_⟩;rw[e];rw[a6q,hsn] at hcp;replace hcp:Q8 p=1+(O4 p.ll+(0+a0v p.gl)):=hcp;exact⟨by omega,g3⟩
theorem b8C {p:Pr} (h:mayP p=true):Vld p/\Q8 p<=2048:=by
 obtain⟨h1,h2⟩:=a7g p 0 true 2048 (by decide) h;obtain⟨h3,h4⟩:=h2 h;exact⟨h1,by omega⟩
end
end Go.Pc
namespace Go.Ty
section
open Go.Lx
def a1z:B:=[67,72,65,78]
def cOF:B:=[79,70]
def a2O:B:=[84,73,77,69,82]
def lb:B:=[91]
def rb:B:=[93]
def C1 (s:B):Tok:=⟨5,0,s,0⟩
def a0x (s:B):Tok:=⟨2,0,s,0⟩
def dimT (t:Ty):List Tok:=if decide (t.dim > 0) then [C1 lb,⟨3,0,[],t.dim⟩,C1 rb] else []
def chanT (t:Ty):List Tok:=if t.kind==4 then [a0x a1z,a0x cOF] else []
def a6d (t:Ty):Int:=if t.kind==4 then t.item else t.kind
def lastT (t:Ty):Tok:=if (wordS (a6d t)).2.2 then a0x (wordS (a6d t)).1 else if !(t.proto==[]) then ⟨1,0,t.proto,0⟩ else a0x a2O
def toks (t:Ty):List Tok:=dimT t++chanT t++[lastT t]
def tokens (t:Ty):List Tok × Int:=if may t then (toks t,0) else ([],2)
theorem a8D {t:Ty} (h:may t=false):tokens t=([],2):=by unfold tokens;rw[h];rfl
theorem a07 {t:Ty} (h:may t=true):tokens t=(toks t,0):=by unfold tokens;rw[h];rfl
theorem dimT_le (t:Ty):(dimT t).length<=3:=by unfold dimT;split <;> simp
theorem chanT_le (t:Ty):(chanT t).length<=2:=by unfold chanT;split <;> simp
theorem may_dim {t:Ty} (h:may t=true):0<=t.dim/\t.dim<=64:=by
 unfold may at h;split at h
 ·cases h
 ·rename_i hf
  unfold far at hf;simp at hf;omega
theorem b8k {t:Ty} (h:may t=true):IntKind.i32.wrap t.dim=t.dim:=by
 have:=may_dim h;unfold IntKind.wrap;simp[IntKind.bits,IntKind.signed];omega
end
section
open Go.Lx
def TkOk (l:List Tok):Prop:=∀ x,x ∈ l->(-2147483648<=x.n/\x.n<=2147483647)/\x.text.length<=9223372036854775807
def I2 (l:List Tok) (n:Nat):Tok:=l.getD n zeroK
theorem a0S {l:List Tok} {n:Nat} (h:n < l.length):l[n]?=some (I2 l n):=by
 unfold I2;rw[List.getD_eq_getElem?_getD,List.getElem?_eq_getElem h];rfl
def a2q (l:List Tok) (n:Nat) (kd:Int) (s:B):Bool:=
 decide ((n:Int) >= (l.length:Int))||((I2 l n).kind != kd)||!((I2 l n).text==s)||((kd != 3)&&((I2 l n).n != 0))
def next (l:List Tok) (n:Nat) (kd:Int) (s:B):Bool:=!a2q l n kd s
def nx (b:Bool) (n:Nat):Nat:=if b then n+1 else n
theorem a2D {l:List Tok} {n:Nat} {kd:Int} {s:B} (h:next l n kd s=true):n < l.length:=by
 unfold next a2q at h;simp at h;omega
def a1P (l:List Tok) (n:Nat):List Pm->Option Int
 | []=>none
 | p::r=>if next l n 2 p.word then some p.kind else a1P l n r
theorem a4E (l:List Tok) (n:Nat) {r:List Pm} {i:Nat} {p:Pm} (hp:r[i]?=some p):a1P l n (r.drop i)=if next l n 2 p.word then some p.kind else a1P l n (r.drop (i+1)):=by
 have h1:i < r.length:=(List.getElem?_eq_some_iff.1 hp).1;rw[List.drop_eq_getElem_cons h1,(List.getElem?_eq_some_iff.1 hp).2];rfl
def named (l:List Tok) (n:Nat):Option Int:=a1P l n prims
def nmB (l:List Tok) (n:Nat):Bool:=(named l n).isSome
def a3K (t:Ty):Option Int->Ty
 | some k=>{ t with kind:=k }
 | none=>t
def a4I (t:Ty):Option Int->Ty
 | some k=>{ t with item:=k }
 | none=>t
theorem a7r {l:List Tok} {n:Nat}:∀ {r:List Pm} {k:Int},a1P l n r=some k->n < l.length
 | p::r,k,h=>by
  unfold a1P at h;split at h
  ·rename_i hn;exact a2D hn
  ·exact a7r h
theorem c1R {l:List Tok} {n:Nat} (h:nmB l n=true):n < l.length:=by
 unfold nmB at h;cases hn:named l n with
 | none=>rw[hn] at h;cases h
 | some k=>exact a7r hn
def pre (l:List Tok):Bool × Int × Nat:=
 if next l 0 5 lb then
  (if next l 1 3 [] then
   (if decide ((I2 l 1).n > 0)&&next l 2 5 rb then (true,(I2 l 1).n,3) else (false,(I2 l 1).n,2))
   else (false,0,1))
 else (true,0,0)
def mid (l:List Tok):Bool × Ty × Nat:=
 match pre l with
 | (false,d,n)=>(false,⟨0,d,0,[]⟩,n)
 | (true,d,n)=>
  match named l n with
  | some k=>(true,⟨k,d,0,[]⟩,n+1)
  | none=>
   if next l n 2 a1z then
    (if next l (n+1) 2 cOF then
     (match named l (n+2) with
      | some k=>(true,⟨4,d,k,[]⟩,n+3)
      | none=>if decide ((n+2:Nat) < (l.length:Int))&&next l (n+2) 1 (I2 l (n+2)).text then (true,⟨4,d,0,(I2 l (n+2)).text⟩,n+3) else (true,⟨4,d,0,[]⟩,n+2))
     else (false,⟨4,d,0,[]⟩,n+1))
   else if next l n 2 a2O then (true,⟨5,d,0,[]⟩,n+1) else (true,⟨0,d,0,[]⟩,n)
def front (l:List Tok):Ty × Nat × Int:=
 match mid l with
 | (ok,t,n)=>if !ok||!may t then (zeroT,0,90) else (t,n,0)
theorem b70 {b:Bool} {n L:Nat} (h1:b=true->n < L) (h2:n<=L):nx b n<=L:=by
 unfold nx;cases b
 ·exact h2
 ·exact h1 rfl
theorem b2j {l:List Tok} (h1:next l 0 5 lb=true) (h2:next l 1 3 []=true) :
 pre l=(decide ((I2 l 1).n > 0)&&next l 2 5 rb,(I2 l 1).n,nx (decide ((I2 l 1).n > 0)&&next l 2 5 rb) 2):=by
 unfold pre;rw[h1,h2];generalize (decide ((I2 l 1).n > 0)&&next l 2 5 rb)=b;cases b <;> rfl
theorem b6c {l:List Tok} (h1:next l 0 5 lb=true) (h2:next l 1 3 []=false):pre l=(false,0,1):=by
 unfold pre;rw[h1,h2];rfl
theorem b6r {l:List Tok} (h1:next l 0 5 lb=false):pre l=(true,0,0):=by
 unfold pre;rw[h1];rfl
theorem b9S {l:List Tok} {ok:Bool} {d:Int} {n:Nat} (hP:pre l=(ok,d,n)) (hc:(!ok||nmB l n)=true):mid l=(ok,a3K ⟨0,d,0,[]⟩ (if ok then named l n else none),nx (ok&&nmB l n) n):=by
 unfold mid;rw[hP];cases ok with
 | false=>rfl
 | true=>
  unfold nmB at hc ⊢;cases hn:named l n with
  | none=>rw[hn] at hc;cases hc
  | some k=>simp only[hn];rfl
theorem b2x {l:List Tok} {n:Nat} (h:nmB l n=false):named l n=none:=by
 unfold nmB at h;cases hn:named l n with
 | none=>rfl
 | some k=>rw[hn] at h;cases h
theorem b7A {l:List Tok} {d:Int} {n N N2:Nat} {o b:Bool} {T2:Ty} (hP:pre l=(true,d,n)) (hn:named l n=none) (h38:next l n 2 a1z=true) (ho:next l (n+1) 2 cOF=o) (hN:nx o (n+1)=N) (hN2:nx (o&&nmB l N) N=N2)
 (hT:a4I ⟨4,d,0,[]⟩ (if o then named l N else none)=T2) (hb:((o&&!nmB l N)&&decide ((N2:Int) < l.length)&&next l N2 1 (I2 l N2).text)=b) :
 mid l=(o,if b then { T2 with proto:=(I2 l N2).text } else T2,nx b N2):=by
 unfold mid;rw[hP];simp only[hn,h38,ho,if_true];cases o with
 | false=>
  subst hT hN2 hN;simp at hb;subst hb;rfl
 | true=>
  have e:N=n+2:=hN.symm;subst e;simp only[if_true];unfold nmB at hN2 hb;cases hm:named l (n+2) with
  | some k=>
   rw[hm] at hN2 hb hT;simp at hb;subst hb hT hN2;rfl
  | none=>
   rw[hm] at hN2 hb hT;have e:N2=n+2:=hN2.symm;subst e;have hb':(decide (((n+2:Nat):Int) < (l.length:Int))&&next l (n+2) 1 (I2 l (n+2)).text)=b:=by simpa using hb
   simp only[hb'];subst hT;cases b <;> rfl
theorem a9u {l:List Tok} {d:Int} {n:Nat} (hP:pre l=(true,d,n)) (hn:named l n=none) (h38:next l n 2 a1z=false) (h73:next l n 2 a2O=true):mid l=(true,⟨5,d,0,[]⟩,n+1):=by
 unfold mid;rw[hP];simp only[hn,h38,h73,if_true,Bool.false_eq_true,if_false]
theorem b3R {l:List Tok} {d:Int} {n:Nat} (hP:pre l=(true,d,n)) (hn:named l n=none) (h38:next l n 2 a1z=false) (h73:next l n 2 a2O=false):mid l=(true,⟨0,d,0,[]⟩,n):=by
 unfold mid;rw[hP];simp only[hn,h38,h73,Bool.false_eq_true,if_false]
theorem b1a {l:List Tok} {ok:Bool} {t:Ty} {n:Nat} (h:mid l=(ok,t,n)) (hc:(!ok||!may t)=true):front l=(zeroT,0,90):=by
 unfold front;rw[h];simp only[hc,if_true]
theorem a8L {l:List Tok} {ok:Bool} {t:Ty} {n:Nat} (h:mid l=(ok,t,n)) (hc:(!ok||!may t)=false):front l=(t,n,0):=by
 unfold front;rw[h];simp only[hc,Bool.false_eq_true,if_false]
theorem wrapN {z:Int} (h:-2147483648<=z/\z<=2147483647):IntKind.i64.wrap z=z:=by
 unfold IntKind.wrap;simp[IntKind.bits,IntKind.signed];omega
end
end Go.Ty
namespace Go.Ly
section
open Go.Eng
abbrev B:=List UInt8
structure Rw where
 no:Int
 depth:Int
 text:B
structure Pc where
 no:Nat
 ind:Nat
 text:B
def encB (s:B):List Value:=[str s]
theorem C4 (s:B):(encB s).length=1:=rfl
set_option linter.defProp false in
@[reducible,instance]def iencB_len:=Go.Eng.Ln.mk C4 (by decide)
def O6 (r:Rw):List Value:=[.int .i64 r.no,.int .i64 r.depth,str r.text]
theorem G8 (r:Rw):(O6 r).length=3:=rfl
set_option linter.defProp false in
@[reducible,instance]def iencR_len:=Go.Eng.Ln.mk G8 (by decide)
theorem b9r:∀ s:B,(Lib.indexByte s 10=-1/\(10:UInt8) ∉ s)\/∃ a r,s=a++10::r/\(10:UInt8) ∉ a/\Lib.indexByte s 10=a.length
 | []=>.inl ⟨rfl,by simp⟩
 | c::l=>by
  unfold Lib.indexByte;by_cases hc:(c==10)=true
  ·rw[if_pos hc]
   exact .inr ⟨[],l,by rw[eq_of_beq hc];rfl,by simp,rfl⟩
  ·rw[if_neg hc]
   have hc':c≠10:=fun e=>hc (by simp[e])
   rcases b9r l with ⟨e,h⟩ | ⟨a,r,rfl,h,e⟩
   ·rw[e]
    exact .inl ⟨rfl,by simp[h,Ne.symm hc']⟩
   ·rw[e,if_neg (by simp)]
    exact .inr ⟨c::a,r,rfl,by simp[h,Ne.symm hc'],by simp⟩
def c3h:B->B
 | []=>[]
 | c::l=>if c==45&&l.head?==some 45 then [] else c::c3h l
def c0K (s:B):B:=Lib.trimRightB (c3h s) 32
def txt (s:B):B:=Lib.trimLeftB (c0K s) 32
def ind (s:B):Nat:=(c0K s).length - (txt s).length
def b6v:B:=[44,59,40,91,43,45,42,47,92,61,60,62,126,38]
def b5j (s:B):Bool:=match s.getLast? with
 | none=>false
 | some c=>b6v.contains c
theorem b1H (c:UInt8):∀ l:B,decide (Lib.indexByte l c >= 0)=l.contains c
 | []=>rfl
 | x::l=>by
  have ih:=b1H c l;have hge:=Lib.indexByte_ge l c;unfold Lib.indexByte;rw[List.contains_cons,show(c==x)=(x==c) from Bool.beq_comm];by_cases h:(x==c)=true
  ·rw[if_pos h,h];rfl
  ·rw[if_neg h,show(x==c)=false by simpa using h,Bool.false_or,<- ih]
   by_cases hi:Lib.indexByte l c=-1
   ·rw[if_pos (by simp[hi]),hi]
   ·rw[if_neg (by simpa using hi)]
    apply decide_eq_decide.2;omega
def okB (c:UInt8):Bool:=decide ((c.toNat:Int) >= 32)&&decide ((c.toNat:Int)<=126)
structure S where
 parts:List B
 first:Pc
 before:Int
 last:Nat
 out:List Rw
abbrev Out:=List Rw × Nat × Nat
def a8R (s:S):B:=Lib.join s.parts [32]
def c3L (s:S):Bool:=decide (s.first.ind / 2 > 32)||decide ((a8R s).length > 256)||decide (s.out.length=2048)
def c2B (s:S):S:=⟨[],s.first,(s.first.ind / 2:Nat),s.last,s.out++[⟨s.first.no,(s.first.ind / 2:Nat),a8R s⟩]⟩
def c3j (k:S->Out) (s:S):Out:=if b5j (a8R s) then k s else if c3L s then ([],s.first.no,3) else k (c2B s)
def c0S (s:S) (p:Pc):Bool:=!s.parts.isEmpty&&decide (p.ind < s.first.ind)
def c1h (s:S) (p:Pc):Bool:=s.parts.isEmpty&&(decide (p.ind % 2=1)||decide (((p.ind / 2:Nat):Int) > s.before+1))
def a9f (s:S) (p:Pc):S:=⟨s.parts++[p.text],if s.parts.isEmpty then p else s.first,s.before,p.no,s.out⟩
def run:List Pc->S->Out
 | [],s=>if s.parts.isEmpty then (s.out,0,0) else ([],s.last,5)
 | p::ps,s=>if c0S s p then ([],p.no,70) else if c1h s p then ([],p.no,70) else c3j (run ps) (a9f s p)
def s0:S:=⟨[],⟨0,0,[]⟩,-1,0,[]⟩
theorem b1f (p:Pc) (ps:List Pc) (s:S):run (p::ps) s=if c0S s p then ([],p.no,70) else if c1h s p then ([],p.no,70) else c3j (run ps) (a9f s p):=rfl
end
section
open Go.Eng
theorem b56 (ps:List B) (t:B):Lib.join (ps++[t]) [32]=if ps.isEmpty then t else Lib.join ps [32]++32::t:=by
 cases ps with
 | nil=>exact Lib.join_one t [32]
 | cons x r=>
  rw[List.cons_append,Lib.join_cons,Lib.join_cons];simp[Lib.joinTail]
theorem b5r (s:S) (p:Pc):a8R (a9f s p)=if s.parts.isEmpty then p.text else a8R s++32::p.text:=b56 _ _
structure PcOk (p:Pc):Prop where
 ne:p.text≠[]
 len:p.text.length<=65536
 ind:p.ind<=65536
 no:p.no<=65537
structure Inv (N:Nat) (s:S):Prop where
 cnt:s.parts.length+s.out.length<=N
 txt:(a8R s).length<=N * 65537
 bef:-1<=s.before/\s.before<=65536
 ind:s.first.ind<=65536
 out:s.out.length<=2048
theorem Inv.take {N:Nat} {s:S} {p:Pc} (h:Inv N s) (hp:PcOk p):Inv (N+1) (a9f s p):=by
 have h1:=h.cnt;have h2:=h.txt;have h3:=hp.len;have h4:=h.ind;have h5:=hp.ind;refine⟨by simp only[a9f,List.length_append,List.length_singleton];omega,?_,h.bef,?_,h.out⟩
 ·rw[b5r]
  split
  ·omega
  ·simp
   omega
 ·simp only[a9f]
  split <;> omega
end
section
open Go.Eng
theorem W2 {α:Type} {l:List α} {k:Nat} {c:α} (hc:l[k]?=some c):l.drop k=c::l.drop (k+1):=by
 have h1:k < l.length:=(List.getElem?_eq_some_iff.1 hc).1;rw[List.drop_eq_getElem_cons h1,(List.getElem?_eq_some_iff.1 hc).2]
theorem a1w {α:Type} {l:List α} {k:Nat} {c:α} (hc:l[k]?=some c):l.take (k+1)=l.take k++[c]:=take_snoc hc
theorem Inv.mono {N N':Nat} {s:S} (h:Inv N s) (hn:N<=N'):Inv N' s:=by
 have h1:=h.cnt;have h2:=h.txt;exact⟨Nat.le_trans h1 hn,Nat.le_trans h2 (Nat.mul_le_mul_right 65537 hn),h.bef,h.ind,h.out⟩
end
section
open Go.Eng
def b9P (s:B):Bool:=(((((s==[])||decide ((s.length:Int) > 256))||(Lib.trimB s 32 != s))||Lib.contains s [45,45])||b5j s)
def validP (s:B):Bool:=!b9P s&&s.all okB
def b5c (no depth:Int) (x:Rw):Bool:=((((decide (x.no<=no)||decide (x.no > 65536))||decide (x.depth < 0))||decide (x.depth > if 32 < depth+1 then 32 else depth+1))||!validP x.text)
def b1p (no depth size:Int):List Rw->Bool
 | []=>decide (size<=65537)
 | x::r=>if b5c no depth x then false else b1p x.no x.depth (size+2 * x.depth+x.text.length+1) r
def mayP (l:List Rw):Bool:=if (l.length:Int) > 2048 then false else b1p 0 (-1) 0 l
theorem b4o {no depth size:Int} {l:List Rw} {k:Nat} {x:Rw} (hx:l[k]?=some x):b1p no depth size (l.drop k)=if b5c no depth x then false else b1p x.no x.depth (size+2 * x.depth+x.text.length+1) (l.drop (k+1)):=by
 rw[W2 hx];rfl
theorem validP_spec {s:B} (h:validP s=true):s≠[]/\s.length<=256/\Lib.trimB s 32=s/\Lib.contains s [45,45]=false/\b5j s=false/\s.all okB=true:=by
 simp only[validP,b9P,Bool.and_eq_true,Bool.not_eq_true',Bool.or_eq_false_iff,decide_eq_false_iff_not,bne_eq_false_iff_eq,beq_eq_false_iff_ne] at h;obtain⟨⟨⟨⟨⟨h1,h2⟩,h3⟩,h4⟩,h5⟩,h6⟩:=h;exact⟨h1,by omega,h3,h4,h5,h6⟩
theorem b3N {no depth:Int} {x:Rw} (h:b5c no depth x=false):no < x.no/\x.no<=65536/\0<=x.depth/\x.depth<=depth+1/\x.depth<=32/\validP x.text=true:=by
 simp only[b5c,Bool.or_eq_false_iff,decide_eq_false_iff_not,Bool.not_eq_false'] at h;obtain⟨⟨⟨⟨h1,h2⟩,h3⟩,h4⟩,h5⟩:=h;split at h4 <;> exact⟨by omega,by omega,by omega,by omega,by omega,h5⟩
theorem mayA_all:∀ {l:List Rw} {no depth size:Int},b1p no depth size l=true->∀ x ∈ l,0<=x.depth/\x.depth<=32/\validP x.text=true
 | [],_,_,_,_,x,hx=>by cases hx
 | y::r,no,depth,size,h,x,hx=>by
  unfold b1p at h;split at h
  ·cases h
  ·rename_i hb
   obtain⟨h1,h2,h3,h4,h5,h6⟩:=b3N (by simpa using hb);rcases List.mem_cons.1 hx with rfl | hx
   ·exact⟨h3,h5,h6⟩
   ·exact mayA_all h x hx
theorem mayP_all {l:List Rw} (h:mayP l=true):l.length<=2048/\∀ x ∈ l,0<=x.depth/\x.depth<=32/\x.text.length<=256:=by
 unfold mayP at h;split at h
 ·cases h
 ·exact⟨by omega,fun x hx=>by obtain⟨h1,h2,h3⟩:=mayA_all h x hx;exact⟨h1,h2,(validP_spec h3).2.1⟩⟩
def eqR (x y:Rw):Bool:=x.no==y.no&&(x.depth==y.depth&&(x.text==y.text&&true))
theorem a9Z (x y:Rw):eqR x y=true↔x=y:=by
 cases x;cases y
 simp[eqR]
theorem a9y {x y:Rw} (h:(!eqR x y)=true):eqR x y=false:=by simpa using h
theorem a9A {x y:Rw} (h:(!eqR x y)=false):eqR x y=true:=by simpa using h
end
end Go.Ly
namespace Go.Sx
section
open Go.Eng Go.Pc Go
open Go.Xp hiding B
open Go.Ty (Ty Vr Tok)
open Go.Ly (Rw)
abbrev E (α:Type):=Except Int (α × List Tok)
def O2 {α β:Type} (r:E α) (f:α->List Tok->E β):E β:=match r with
 | .ok (x,ts)=>f x ts
 | .error e=>.error e
def isM (k:Int) (s:B):List Tok->Bool
 | []=>false
 | t::_=>(t.kind==k)&&(t.text==s)
def X6 {β:Type} (k:Int) (s:B) (ts:List Tok) (f:List Tok->E β):E β:=if isM k s ts then f ts.tail else .error 110
def U6:List Tok->E B
 | []=>.error 110
 | t::r=>if t.kind=1 then .ok (t.text,r) else .error 110
def L6 (ts:List Tok):E Ex:=match Q0 ts with
 | .ok (x,k)=>.ok (x,ts.drop k)
 | .error _=>.error 110
def K6 (ts:List Tok):E Ex:=if (ts.headD Go.Ty.zeroK).kind=1 then O2 (L6 ts) fun x r=>if N7 x then .ok (x,r) else .error 110 else .error 110
def a6G (ts:List Tok):E Ty:=if (Go.Ty.front ts).2.2=0 then .ok ((Go.Ty.front ts).1,ts.drop (Go.Ty.front ts).2.1) else .error 110
def a5b (ts:List Tok):E Int:=O2 (a6G ts) fun t r=>if a1A t then .ok (t.kind,r) else .error 110
def a3J (ts:List Tok):E Fo:=O2 (a6G (if isM 2 [86,65,76] ts then ts.tail else ts)) fun t r=>O2 (U6 r) fun n r=>if foP ⟨isM 2 [86,65,76] ts,t,n⟩ then .ok (⟨isM 2 [86,65,76] ts,t,n⟩,r) else .error 110
def a1S {α:Type} (take:List Tok->E α) (sep:B):Nat->List α->List Tok->E (List α)
 | 0,acc,ts=>if isM 5 sep ts then .error 110 else .ok (acc,ts)
 | n+1,acc,ts=>if isM 5 sep ts then O2 (take ts.tail) fun x r=>a1S take sep n (acc++[x]) r else .ok (acc,ts)
def P0 {α:Type} (take:List Tok->E α) (sep:B) (most:Nat) (ts:List Tok):E (List α):=O2 (take ts) fun x r=>a1S take sep (most - 1) [x] r
def brM {α:Type} (take:List Tok->E α) (ts:List Tok):E (List α):=X6 5 [40] ts fun r=>if isM 5 [41] r then .ok ([],r.tail) else O2 (P0 take [44] 8 r) fun l r=>X6 5 [41] r fun r=>.ok (l,r)
def D1:Rp:=⟨[],A2,A2⟩
def b2w (ts:List Tok):E Rp:=if ts.isEmpty then .ok (D1,ts) else O2 (U6 ts) fun n r=>X6 5 [61] r fun r=>O2 (L6 r) fun b r=>X6 2 [70,79,82] r fun r=>O2 (L6 r) fun c r=>.ok (⟨n,b,c⟩,r)
def sl {α:Type} (l:List α):Sli α:=⟨none,0,l⟩
def guM (k:Int) (nm:B) (cond ch:Ex) (tg vl:List Ex) (time:Ex):Gu:=.mk k nm cond ch (sl tg) (sl vl) time none 0 []
def ifM (ts:List Tok):E Gu:=O2 (L6 ts) fun c r=>.ok (guM 1 [] c A2 [] [] A2,r)
def b0K (ts:List Tok):Bool:=match Q0 ts with
 | .ok (_,n)=>isM 5 [38] (ts.drop n)
 | .error _=>false
def a9c (c:Ex) (ts:List Tok):E Gu:=O2 (K6 ts) fun ch r=>X6 5 [63] r fun r=>if isM 2 [65,70,84,69,82] r then O2 (L6 r.tail) fun t r=>.ok (guM 4 [] c ch [] [] t,r) else O2 (P0 K6 [59] 8 r) fun l r=>.ok (guM 3 [] c ch l [] A2,r)
def a6Z (ts:List Tok):E Gu:=if b0K ts then O2 (L6 ts) fun c r=>X6 5 [38] r fun r=>if isM 2 [83,75,73,80] r then .ok (guM 2 [] c A2 [] [] A2,r.tail) else a9c c r else a9c A2 ts
def b4k (ts:List Tok):E Gu:=if isM 2 [69,76,83,69] ts then .ok (guM 6 [] A2 A2 [] [] A2,ts.tail) else O2 (P0 L6 [44] 8 ts) fun l r=>.ok (guM 5 [] A2 A2 [] l A2,r)
def b1S (ts:List Tok):E Gu:=O2 (U6 ts) fun n r=>if isM 5 [59] r then O2 (P0 K6 [59] 8 r.tail) fun l r=>.ok (guM 7 n A2 A2 l [] A2,r) else .ok (guM 7 n A2 A2 [] [] A2,r)
abbrev PE (α:Type):=Except (Int × Nat) (α × Nat)
def P8 {α β:Type} (r:PE α) (f:α->Nat->PE β):PE β:=match r with
 | .ok (x,i)=>f x i
 | .error e=>.error e
def H6 {α β:Type} (r:E α) (i:Nat) (f:α->List Tok->PE β):PE β:=match r with
 | .ok (x,ts)=>f x ts
 | .error e=>.error (e,i)
def F1 {β:Type} (ts:List Tok) (i:Nat) (f:Nat->PE β):PE β:=if ts.isEmpty then f (i+1) else .error (110,i)
def U8 {β:Type} (k:Int) (s:B) (ts:List Tok) (i:Nat) (f:List Tok->PE β):PE β:=if isM k s ts then f ts.tail else .error (110,i)
section
variable (R:List Rw)
def O3 (d:Int) (i:Nat):Bool:=match R[i]? with
 | some x=>x.depth==d
 | none=>false
def a0p (d:Int) (i:Nat):Except (Int × Nat) (List Tok):=match R[i]? with
 | none=>.error (110,i)
 | some x=>if (Go.Lx.lexO x.text).2.2≠0 then .error ((Go.Lx.lexO x.text).2.2,i) else if x.depth≠d then .error (110,i) else .ok (Go.Lx.lexO x.text).1
def a0C {β:Type} (d:Int) (i:Nat) (f:List Tok->PE β):PE β:=match a0p R d i with
 | .ok ts=>f ts
 | .error e=>.error e
def a2g {β:Type} (d:Int) (k:Int) (s:B) (i:Nat) (f:Nat->PE β):PE β:=a0C R d i fun ts=>U8 k s ts i fun r=>F1 r i f
def prM (k:Int) (nm:B) (ch:Ex) (tg ex:List Ex) (rep:Rp) (gl:List Gu) (ll:List Pr) (pn:List Int) (sp:Sp):Pr:=.mk k nm ch (sl tg) (sl ex) rep none 0 gl none 0 ll (sl pn) sp
def spM (k:Int) (ty:Ty) (names:List B) (e:Ex) (cs:Bool) (vs:List Vr) (fs:List Fo) (bl:List Pr):Sp:=.mk k ty (sl names) e cs (sl vs) (sl fs) none 0 bl
def b3l (g:Gu) (x:Pr):Gu:=.mk g.k g.name g.cond g.ch g.tg g.vl g.time none 0 [x]
variable (rec:Int->Bool->Nat->PE Pr)
def Z3 (row:List Tok->E Gu) (least most:Nat) (d:Int):Nat->List Gu->Nat->PE (List Gu)
 | 0,acc,i=>if acc.length < least then .error (110,i) else .ok (acc,i)
 | k+1,acc,i=>if acc.length < least\/(acc.length < most/\O3 R d i=true) then a0C R d i fun ts=>H6 (row ts) i fun g r=>F1 r i fun i=>P8 (rec (d+1) false i) fun x i=>Z3 row least most d k (acc++[b3l g x]) i
  else .ok (acc,i)
def a1K (row:List Tok->E Gu) (least most:Nat) (d:Int) (i:Nat):PE (List Gu):=Z3 R rec row least most d (R.length - i) [] i
def a1U (d:Int):Nat->List Pr->Nat->PE (List Pr)
 | 0,acc,i=>.ok (acc,i)
 | k+1,acc,i=>if O3 R d i then P8 (rec d false i) fun x i=>a1U d k (acc++[x]) i else .ok (acc,i)
def b5d (k:Int) (ts:List Tok) (i:Nat):PE Pr:=F1 ts i fun i=>.ok (prM k [] A2 [] [] D1 [] [] [] D2,i)
def a3u (k:Int) (d:Int) (ts:List Tok) (i:Nat):PE Pr:=H6 (b2w ts) i fun r ts=>F1 ts i fun i=>
 if r.name≠[] then P8 (rec (d+1) false i) fun x i=>.ok (prM k [] A2 [] [] r [] [x] [] D2,i)
 else P8 (a1U R rec (d+1) (R.length - i) [] i) fun l i=>.ok (prM k [] A2 [] [] r [] l [] D2,i)
def a0E (k:Int) (row:List Tok->E Gu) (d:Int) (ts:List Tok) (i:Nat):PE Pr:=H6 (b2w ts) i fun r ts=>F1 ts i fun i=>
 P8 (a1K R rec row (if r.name≠[] then 1 else 0) (if r.name≠[] then 1 else 16) (d+1) i) fun l i=>.ok (prM k [] A2 [] [] r l [] [] D2,i)
def c1Z (d:Int) (ts:List Tok) (i:Nat):PE Pr:=if isM 2 [80,65,82] ts then F1 ts.tail i fun i=>P8 (rec (d+1) false i) fun x i=>P8 (rec (d+1) false i) fun y i=>.ok (prM 10 [] A2 [] [] D1 [] [x,y] [] D2,i)
 else U8 2 [65,76,84] ts i fun r=>a0E R rec 13 a6Z d r i
def c1M (d:Int) (ts:List Tok) (i:Nat):PE Pr:=H6 (L6 ts) i fun e r=>F1 r i fun i=>P8 (a1K R rec b4k 0 16 (d+1) i) fun l i=>.ok (prM 15 [] A2 [] [e] D1 l [] [] D2,i)
def b7p (d:Int) (ts:List Tok) (i:Nat):PE Pr:=H6 (L6 ts) i fun e r=>F1 r i fun i=>P8 (rec (d+1) false i) fun x i=>.ok (prM 16 [] A2 [] [e] D1 [] [x] [] D2,i)
def b3a (ts:List Tok):Option Int:=match ts with
 | [t]=>if t.kind=3/\0<=t.n/\t.n < 8 then some t.n else none
 | _=>none
def W0 (d:Int):Nat->List Int->List Pr->Nat->PE (List Int × List Pr)
 | 0,ns,acc,i=>if acc.length=0 then .error (110,i) else .ok ((ns,acc),i)
 | k+1,ns,acc,i=>if acc.length=0\/(acc.length < 8/\O3 R (d+1) i=true) then a0C R (d+1) i fun ts=>U8 2 [80,82,79,67,69,83,83,79,82] ts i fun r=>match b3a r with
  | some n=>P8 (rec (d+2) false (i+1)) fun x i=>W0 d k (ns++[n]) (acc++[x]) i
  | none=>.error (110,i)
  else .ok ((ns,acc),i)
def a6v (d:Int) (ts:List Tok) (i:Nat):PE Pr:=U8 2 [80,65,82] ts i fun r=>F1 r i fun i=>P8 (W0 R rec d (R.length - i) [] [] i) fun x i=>.ok (prM 11 [] A2 [] [] D1 [] x.2 x.1 D2,i)
def a3y (d:Int) (ts:List Tok) (i:Nat):PE Pr:=
 if (ts.headD Go.Ty.zeroK).kind=1/\isM 5 [40] ts.tail=true then H6 (U6 ts) i fun n r=>H6 (brM L6 r) i fun l r=>F1 r i fun i=>.ok (prM 17 n A2 [] l D1 [] [] [] D2,i)
 else H6 (P0 K6 [44] 8 ts) i fun f r=>
  if isM 5 [58,61] r then H6 (P0 L6 [44] 8 r.tail) i fun l r=>F1 r i fun i=>.ok (prM 3 [] A2 f l D1 [] [] [] D2,i)
  else if f.length > 1 then .error (110,i)
  else if isM 5 [33] r then H6 (P0 L6 [59] 9 r.tail) i fun l r=>F1 r i fun i=>.ok (prM 5 [] (f.headD A2) [] l D1 [] [] [] D2,i)
  else U8 5 [63] r i fun r=>
   if isM 2 [67,65,83,69] r then F1 r.tail i fun i=>P8 (a1K R rec b1S 1 16 (d+1) i) fun l i=>.ok (prM 7 [] (f.headD A2) [] [] D1 l [] [] D2,i)
   else if isM 2 [65,70,84,69,82] r then H6 (L6 r.tail) i fun e r=>F1 r i fun i=>.ok (prM 6 [] (f.headD A2) [] [e] D1 [] [] [] D2,i)
   else H6 (P0 K6 [59] 8 r) i fun l r=>F1 r i fun i=>.ok (prM 4 [] (f.headD A2) l [] D1 [] [] [] D2,i)
def vrM (tag:B) (l:List Int):Vr:=⟨tag,none,l.length,0,l⟩
def a0Y (ts:List Tok):E Vr:=O2 (U6 ts) fun n r=>if isM 5 [59] r then O2 (P0 a5b [59] 8 r.tail) fun l r=>.ok (vrM n l,r) else .ok (vrM n [],r)
def a0w (d:Int):Nat->List Vr->Nat->PE (List Vr)
 | 0,acc,i=>if acc.length=0 then .error (110,i) else .ok (acc,i)
 | k+1,acc,i=>if acc.length=0\/O3 R (d+2) i=true then a0C R (d+2) i fun ts=>H6 (a0Y ts) i fun v r=>if Go.Ty.mayPr true (acc++[v]) then F1 r i fun i=>a0w d k (acc++[v]) i else .error (110,i)
  else .ok (acc,i)
def a5j (d:Int) (ts:List Tok) (i:Nat):PE (Bool × List Vr):=
 if isM 2 [73,83] ts then H6 (P0 a5b [59] 8 ts.tail) i fun l r=>U8 5 [58] r i fun r=>F1 r i fun i=>.ok ((false,[vrM [] l]),i)
 else F1 ts i fun i=>a2g R (d+1) 2 [67,65,83,69] i fun i=>P8 (a0w R d (R.length - i) [] i) fun l i=>a2g R d 5 [58] i fun i=>.ok ((true,l),i)
def b0M (s:Sp) (ts:List Tok) (i:Nat):PE (Option Sp):=U8 5 [58] ts i fun r=>if spP s then F1 r i fun i=>.ok (some s,i) else .error (110,i)
def a6a (d:Int) (ts:List Tok) (i:Nat):PE (Option Sp):=
 if isM 2 [80,82,79,84,79,67,79,76] ts then H6 (U6 ts.tail) i fun n r=>P8 (a5j R d r i) fun p i=>.ok (some (spM 4 Go.Ty.zeroT [n] A2 p.1 p.2 [] []),i)
 else if isM 2 [80,82,79,67] ts then H6 (U6 ts.tail) i fun n r=>H6 (brM a3J r) i fun fs r=>F1 r i fun i=>P8 (rec (d+1) false i) fun x i=>a2g R d 5 [58] i fun i=>.ok (some (spM 5 Go.Ty.zeroT [n] A2 false [] fs [x]),i)
 else if isM 2 [86,65,76] ts then H6 (a6G ts.tail) i fun t r=>H6 (U6 r) i fun n r=>U8 2 [73,83] r i fun r=>H6 (L6 r) i fun e r=>b0M (spM 2 t [n] e false [] [] []) r i
 else if isM 5 [91] ts||isM 2 [73,78,84] ts||isM 2 [66,89,84,69] ts||isM 2 [66,79,79,76] ts||isM 2 [67,72,65,78] ts||isM 2 [84,73,77,69,82] ts then H6 (a6G ts) i fun t r=>H6 (P0 U6 [44] 8 r) i fun ns r=>
  if isM 2 [73,83] r then H6 (K6 r.tail) i fun e r=>b0M (spM 3 t ns e false [] [] []) r i else b0M (spM 1 t ns A2 false [] [] []) r i
 else .ok (none,i)
def a3n (s:B):Option (Int->List Tok->Nat->PE Pr):=
 if s=[83,75,73,80] then some fun _ ts i=>b5d 1 ts i else if s=[83,84,79,80] then some fun _ ts i=>b5d 2 ts i
 else if s=[83,69,81] then some (a3u R rec 8) else if s=[80,65,82] then some (a3u R rec 9)
 else if s=[80,82,73] then some (c1Z R rec) else if s=[65,76,84] then some (a0E R rec 12 a6Z) else if s=[73,70] then some (a0E R rec 14 ifM)
 else if s=[67,65,83,69] then some (c1M R rec) else if s=[87,72,73,76,69] then some (b7p rec) else if s=[80,76,65,67,69,68] then some (a6v R rec) else none
def a5W (d:Int) (top:Bool) (ts:List Tok) (i:Nat):PE Pr:=match ts with
 | []=>.error (110,i)
 | t::r=>match a3n R rec t.text with
  | some f=>if t.kind=2/\(top=true\/t.text≠[80,76,65,67,69,68]) then f d r i else a3y R rec d ts i
  | none=>a3y R rec d ts i
def c0R (d:Int) (top:Bool) (i:Nat):PE Pr:=a0C R d i fun ts=>P8 (a6a R rec d ts i) fun so i=>match so with
 | some s=>P8 (rec d top i) fun x i=>.ok (prM 18 [] A2 [] [] D1 [] [x] [] s,i)
 | none=>a5W R rec d top ts i
end
def B9 (R:List Rw):Nat->Int->Bool->Nat->PE Pr
 | 0=>fun _ _ i=>.error (110,i)
 | n+1=>c0R R (B9 R n)
def a9O (R:List Rw):PE Pr:=P8 (B9 R R.length 0 true 0) fun x i=>match R[i]? with
 | none=>.ok (x,i)
 | some y=>.error (if (Go.Lx.lexO y.text).2.2≠0 then (Go.Lx.lexO y.text).2.2 else 110,i)
def N0 (R:List Rw):Pr × Nat × Int:=if Go.Ly.mayP R then (match a9O R with
 | .ok (x,_)=>(x,0,0)
 | .error (e,i)=>(prM 0 [] A2 [] [] D1 [] [] [] D2,i,e)) else (prM 0 [] A2 [] [] D1 [] [] [] D2,0,2)
end
end Go.Sx
namespace Go.Lx
section
open Go.Ty
theorem b1z (s:B):(K0 s).2<=s.length:=by
 unfold K0;split
 ·exact Nat.zero_le _
 ·rename_i h
  have h1:1<=s.length:=by
   cases s with
   | nil=>exact absurd rfl h
   | cons a t=>simp
  split
  ·exact h1
  ·split
   ·exact Nat.zero_le _
   ·rename_i h2
    have h2:2<=s.length:=by simp at h2;omega
    split
    ·exact h2
    ·split
     ·exact Nat.zero_le _
     ·rename_i h4
      have h4:4<=s.length:=by simp at h4;omega
      split
      ·exact Nat.zero_le _
      ·exact h4
theorem b2n (r:B):(tok r).2<=r.length:=by
 have h0:=a4g r;have h1:=a4g (r.drop 1);have h2:=b1z (r.drop 1);have h3:(r.drop 1).length=r.length - 1:=List.length_drop;cases r with
 | nil=>decide
 | cons c r=>
  simp only[List.length_cons] at h0 h1 h2 h3 ⊢;unfold tok;split
  ·unfold a2A
   split
   ·exact h0
   ·split
    ·exact Nat.zero_le _
    ·exact h0
  ·split
   ·unfold a8f
    split
    ·exact Nat.zero_le _
    ·split
     ·exact Nat.zero_le _
     ·split
      ·exact Nat.zero_le _
      ·exact h0
   ·split
    ·unfold a9V
     split
     ·exact Nat.zero_le _
     ·split
      ·exact Nat.zero_le _
      ·show 1+run (List.drop 1 (c::r))<=_
       omega
    ·split
     ·unfold Z7
      split
      ·exact Nat.zero_le _
      ·rename_i h
       unfold noQ at h;simp only[Bool.not_eq_true,Bool.or_eq_false_iff] at h;have:(K0 (List.drop 1 (c::r))).2≠(List.drop 1 (c::r)).length:=fun e=>by
        have:=h.1.2;rw[e] at this;simp at this
       show(K0 (List.drop 1 (c::r))).2+2<=_;omega
     ·unfold a5U
      split
      ·rename_i h
       simp only[Bool.and_eq_true,decide_eq_true_eq] at h;exact h.1
      ·split
       ·show 1<=_
        omega
       ·exact Nat.zero_le _
def a7H (r:B):Nat->Tok × Nat
 | 0=>(zeroK,0)
 | k+1=>if sym (r.take (k+1)) then (⟨5,0,r.take (k+1),0⟩,k+1) else a7H r k
theorem b6a (r:B):a5U r=a7H r (min 2 r.length):=by
 match r with
 | []=>rfl
 | [a]=>rfl
 | a::b::s=>
  rw[show min 2 (a::b::s).length=2 by simp];unfold a5U a7H a7H a7H;simp
theorem a2C:∀ (n k1 k2:Nat) (r:B) (p:Nat),r.length<=n->n<=k1->n<=k2->a6k k1 r p=a6k k2 r p
 | _,k1,k2,[],p,_,_,_=>by cases k1 <;> cases k2 <;> rfl
 | 0,_,_,c::r,p,h,_,_=>by simp at h
 | n+1,k1,k2,c::r,p,h,h1,h2=>by
  obtain⟨j1,rfl⟩:∃ j,k1=j+1:=⟨k1 - 1,by omega⟩;obtain⟨j2,rfl⟩:∃ j,k2=j+1:=⟨k2 - 1,by omega⟩;have hr:r.length<=n:=by simpa using h
  unfold a6k;rw[a2C n j1 j2 r (p+1) hr (by omega) (by omega)];by_cases hn:(tok (c::r)).2==0
  ·simp only[hn,if_true]
  ·have hn':(tok (c::r)).2≠0:=by simpa using hn
   rw[a2C n j1 j2 ((c::r).drop (tok (c::r)).2) (p+(tok (c::r)).2) (by rw[List.length_drop,List.length_cons];omega) (by omega) (by omega)]
def lx (r:B) (p:Nat):Except Nat (List Tok):=a6k r.length r p
def a4R (l:List Tok):Except Nat (List Tok)->Except Nat (List Tok)
 | .ok m=>.ok (l++m)
 | .error e=>.error e
theorem b8F (x:Except Nat (List Tok)):a4R [] x=x:=by cases x <;> rfl
theorem b5X (l m:List Tok) (x:Except Nat (List Tok)):a4R l (a4R m x)=a4R (l++m) x:=by
 cases x with
 | error e=>rfl
 | ok k=>simp[a4R]
theorem c1y (p:Nat):lx [] p=.ok []:=rfl
theorem a6X (r:B) (p:Nat):lx (32::r) p=lx r (p+1):=by
 show a6k (r.length+1) (32::r) p=_;unfold a6k;rw[if_pos (by decide)];rfl
theorem lx_bad {c:UInt8} {r:B} {p:Nat} (hc:c≠32) (hn:(tok (c::r)).2=0):lx (c::r) p=.error p:=by
 have e:((c.toNat:Int)==32)=false:=by
  cases h:(c.toNat:Int)==32 with
  | false=>rfl
  | true => exact absurd (UInt8.toNat.inj (by have := eq_of_beq h; have e : c.toNat = 32 := by exact_mod_cast this
                                              rw[e];rfl)) hc
 show(if (c.toNat:Int)==32 then _ else if (tok (c::r)).2==0 then Except.error p else _)=_;rw[e,hn];rfl
theorem lx_tok {c:UInt8} {r:B} {p:Nat} (hc:c≠32) (hn:(tok (c::r)).2≠0):lx (c::r) p=a4R [{ (tok (c::r)).1 with at_:=p }] (lx ((c::r).drop (tok (c::r)).2) (p+(tok (c::r)).2)):=by
 have e:((c.toNat:Int)==32)=false:=by
  cases h:(c.toNat:Int)==32 with
  | false=>rfl
  | true => exact absurd (UInt8.toNat.inj (by have := eq_of_beq h; have e : c.toNat = 32 := by exact_mod_cast this
                                              rw[e];rfl)) hc
 have e2:((tok (c::r)).2==0)=false:=by simpa using hn
 show(if (c.toNat:Int)==32 then _ else if (tok (c::r)).2==0 then Except.error p else match a6k r.length ((c::r).drop (tok (c::r)).2) (p+(tok (c::r)).2) with
  | .ok l=>.ok ({ (tok (c::r)).1 with at_:=p }::l)
  | .error e=>.error e)=_
 rw[e,e2];simp only[Bool.false_eq_true,if_false];rw[a2C ((c::r).drop (tok (c::r)).2).length r.length ((c::r).drop (tok (c::r)).2).length _ _ (Nat.le_refl _) (by rw[List.length_drop,List.length_cons];omega) (Nat.le_refl _)];unfold lx;cases a6k ((c::r).drop (tok (c::r)).2).length ((c::r).drop (tok (c::r)).2) (p+(tok (c::r)).2) <;> rfl
def c4j:Except Nat (List Tok)->List Tok × Int × Int
 | .ok l=>(l,0,0)
 | .error a=>([],a,80)
theorem a3Q {s:B} (h:decide ((s.length:Int) > 256)=true):lexO s=([],0,3):=by unfold lexO;rw[h];rfl
theorem a4q {s:B} (h:decide ((s.length:Int) > 256)=false):lexO s=c4j (lx s 0):=by
 unfold lexO lx;rw[h];cases a6k s.length s 0 <;> rfl
theorem W2 {s:B} {p:Nat} {c:UInt8} (h:s[p]?=some c):s.drop p=c::s.drop (p+1):=by
 have h1:p < s.length:=(List.getElem?_eq_some_iff.1 h).1;rw[List.drop_eq_getElem_cons h1,(List.getElem?_eq_some_iff.1 h).2]
theorem b2i {s:B} {p:Nat} {l:List Tok} (h:s[p]?=some 32) (hJ:lx s 0=a4R l (lx (s.drop p) p)):lx s 0=a4R l (lx (s.drop (p+1)) (p+1)):=by
 rw[W2 h,a6X] at hJ;exact hJ
theorem b8y {s:B} {p:Nat} {c:UInt8} {l:List Tok} (h:s[p]?=some c) (hc:c≠32) (hn:(tok (s.drop p)).2=0) (hJ:lx s 0=a4R l (lx (s.drop p) p)):lx s 0=.error p:=by
 rw[W2 h] at hn hJ;rw[lx_bad hc hn] at hJ;exact hJ
theorem b6C {s:B} {p:Nat} {c:UInt8} {l:List Tok} (h:s[p]?=some c) (hc:c≠32) (hn:(tok (s.drop p)).2≠0) (hJ:lx s 0=a4R l (lx (s.drop p) p)) :
 lx s 0=a4R (l++[{ (tok (s.drop p)).1 with at_:=p }]) (lx (s.drop (p+(tok (s.drop p)).2)) (p+(tok (s.drop p)).2)):=by
 have e:=W2 h;rw[e] at hn hJ ⊢;rw[lx_tok hc hn,b5X,<- e,List.drop_drop] at hJ;rw[e] at hJ;exact hJ
theorem b4b (c:UInt8):((c.toNat:Int)==32)=(c==32):=by simpa using X7 (p:=fun c=>((c.toNat:Int)==32)==(c==32)) (by decide +kernel) c
end
section
open Go.Ty
def a06 (u:Nat):Nat->B
 | 0=>[]
 | i+1=>N4.getD (u / 16 ^ i % 16) 0::a06 u i
theorem a4i (u:Nat):∀ i,(a06 u i).length=i
 | 0=>rfl
 | i+1=>by show(a06 u i).length+1=_;rw[a4i u i]
def a1j (v:Int) (hex:Bool):B:=if hex then 35::a06 (IntKind.u32.wrap v).toNat 8 else Lib.itoa v
def c1q:B:=[13,10,9,39,42]
def b0c:B:=[99,110,116,39,42]
def shI (v:Nat):Int:=Lib.indexByte c1q (UInt8.ofNat v)
def a4s (v:Nat):B:=
 if decide (shI v >= 0) then [42,b0c.getD (shI v).toNat 0]
 else if decide ((v:Int) < 32)||decide ((v:Int) > 126) then [42,35,N4.getD (v / 16) 0,N4.getD (v % 16) 0]
 else [UInt8.ofNat v]
def a0A (t:Tok):B:=if t.kind==3 then a1j t.n (decide (t.n < 0)) else if t.kind==4 then [39]++a4s t.n.toNat++[39] else t.text
def a9p (t:Tok) (s:B):Bool:=(t.kind==5)&&Lib.contains s t.text
def b7v:B:=[44,59,58,41,93]
def b3n:B:=[40,91]
def gap (p t:Tok):Bool:=!a9p t b7v&&!a9p p b3n&&((p.kind != 1)||!a9p t b3n)
def a8g:Option Tok->Tok->Bool
 | none,_=>false
 | some p,t=>gap p t
def sep (b:Bool):B:=if b then [32] else []
def textL:Option Tok->List Tok->B
 | _,[]=>[]
 | p,t::l=>sep (a8g p t)++a0A t++textL (some t) l
def a2P (p:Option Tok):List Tok->Option Tok
 | []=>p
 | t::l=>a2P (some t) l
theorem a5l:∀ (l m:List Tok) (p:Option Tok),textL p (l++m)=textL p l++textL (a2P p l) m
 | [],m,p=>rfl
 | t::l,m,p=>by
  show sep (a8g p t)++a0A t++textL (some t) (l++m)=sep (a8g p t)++a0A t++textL (some t) l++textL (a2P (some t) l) m;rw[a5l l m (some t)];simp
theorem a6L:∀ (l:List Tok) (i:Nat) (p:Option Tok) (t:Tok),l[i]?=some t->a2P p (l.take (i+1))=some t
 | [],i,p,t,h=>by cases i <;> cases h
 | x::l,0,p,t,h=>by cases h;cases l <;> rfl
 | x::l,i+1,p,t,h=>by
  show a2P (some x) (l.take (i+1))=some t;exact a6L l i (some x) t (by simpa using h)
theorem b2K {l:List Tok} {i:Nat} {t:Tok} (p:Option Tok) (h:l[i]?=some t):textL p (l.take (i+1))=textL p (l.take i)++(sep (a8g (a2P p (l.take i)) t)++a0A t):=by
 have h1:i < l.length:=(List.getElem?_eq_some_iff.1 h).1;have e:l.take (i+1)=l.take i++[t]:=by
  rw[List.take_add_one,h];rfl
 rw[e,a5l];show textL p (l.take i)++(sep _++a0A t++[])=_;simp
def textO (l:List Tok):B × Int:=
 if l.any fun t=>!J4 t then ([],2) else if decide (((textL none l).length:Int) > 256) then ([],3) else (textL none l,0)
theorem b5I {l:List Tok} (h:l.any (fun t=>!J4 t)=true):textO l=([],2):=by unfold textO;rw[h];rfl
theorem b2S {l:List Tok} (h:l.any (fun t=>!J4 t)=false) {i:Nat} (hi:256 < (textL none (l.take i)).length):textO l=([],3):=by
 unfold textO;rw[h];have:decide (((textL none l).length:Int) > 256)=true:=by
  have e:textL none l=textL none (l.take i)++textL (a2P none (l.take i)) (l.drop i):=by rw[<- a5l,List.take_append_drop]
  rw[e,List.length_append];simp;omega
 rw[this];rfl
theorem b71 {l:List Tok} (h:l.any (fun t=>!J4 t)=false) (hl:(textL none l).length<=256):textO l=(textL none l,0):=by
 unfold textO;rw[h];have:decide (((textL none l).length:Int) > 256)=false:=by simp;omega
 rw[this];rfl
theorem a8B (v:Nat):(a4s v).length<=4:=by
 unfold a4s;split
 ·simp
 ·split <;> simp
theorem a9t:∀ (n u:Nat),u<=n->(Lib.decDigits u).length<=u+1
 | n,u,h=>by
  unfold Lib.decDigits;split
  ·simp
  ·rename_i h10
   cases n with
   | zero=>omega
   | succ n=>
    have:=a9t n (u / 10) (by omega);rw[List.length_append,List.length_singleton];omega
theorem b4R {v:Int} (b:Bool) (h:-2147483648<=v/\v<=2147483647):(a1j v b).length<=3000000000:=by
 unfold a1j;split
 ·rw[List.length_cons,a4i];omega
 ·unfold Lib.itoa
  split
  ·have:=a9t _ v.natAbs (Nat.le_refl _);rw[List.length_cons];omega
  ·have:=a9t _ v.toNat (Nat.le_refl _);omega
theorem b5b {t:Tok} (h:-2147483648<=t.n/\t.n<=2147483647) (hs:t.text.length<=140737488355328):(a0A t).length<=140737488355328:=by
 unfold a0A;split
 ·have:=b4R (decide (t.n < 0)) h;omega
 ·split
  ·have:=a8B t.n.toNat
   simp only[List.length_append,List.length_singleton];omega
  ·exact hs
theorem b2z (u:Nat) (i:Nat):a06 u (i+1)=N4.getD (u / 16 ^ i % 16) 0::a06 u i:=rfl
end
end Go.Lx
section
namespace Go.Lx
open Go.Ty
set_option maxRecDepth 100000
def c3P (t:Tok) (n:Nat) (c:UInt8):Bool:=
 if t.kind==4 then true else if t.kind==5 then (n==2)||!sym (t.text++[c]) else !wch c
def stop (t:Tok) (n:Nat) (y:B):Prop:=∀ c,y[n]?=some c->c3P t n c=true
theorem b1U {x:B} {t:Tok} {n:Nat} (h:a2A x=(t,n)) (hn:n≠0):run x=n/\(t.kind=1\/t.kind=2)/\t.text=x.take n/\t.n=0/\t.at_=0:=by
 unfold a2A at h;split at h
 ·cases h;exact⟨rfl,.inr rfl,rfl,rfl,rfl⟩
 ·split at h
  ·cases h;exact absurd rfl hn
  ·cases h;exact⟨rfl,.inl rfl,rfl,rfl,rfl⟩
theorem b7l {x:B} {t:Tok} {n:Nat} (h:a8f x=(t,n)) (hn:n≠0):run x=n/\t.kind=3/\t.text=[]/\t.at_=0:=by
 unfold a8f at h;split at h
 ·cases h;exact absurd rfl hn
 ·split at h
  ·cases h;exact absurd rfl hn
  ·split at h
   ·cases h;exact absurd rfl hn
   ·cases h;exact⟨rfl,rfl,rfl,rfl⟩
theorem b7m {x:B} {t:Tok} {n:Nat} (h:a9V x=(t,n)) (hn:n≠0):1+run (x.drop 1)=n/\t.kind=3/\t.text=[]/\t.at_=0:=by
 unfold a9V at h;split at h
 ·cases h;exact absurd rfl hn
 ·split at h
  ·cases h;exact absurd rfl hn
  ·cases h;exact⟨rfl,rfl,rfl,rfl⟩
theorem b5f {x:B} {t:Tok} {n:Nat} (h:Z7 x=(t,n)) (hn:n≠0):noQ (x.drop 1) (K0 (x.drop 1)).2=false/\t=⟨4,0,[],(K0 (x.drop 1)).1⟩/\n=(K0 (x.drop 1)).2+2:=by
 unfold Z7 at h;split at h
 ·cases h;exact absurd rfl hn
 ·rename_i hq;cases h;exact⟨by simpa using hq,rfl,rfl⟩
theorem b5a {x:B} {t:Tok} {n:Nat} (h:a5U x=(t,n)) (hn:n≠0):t=⟨5,0,x.take n,0⟩/\sym (x.take n)=true/\n<=x.length/\(n=2\/n=1/\(2<=x.length->sym (x.take 2)=false)):=by
 unfold a5U at h;split at h
 ·rename_i hc
  simp only[Bool.and_eq_true,decide_eq_true_eq] at hc;cases h;exact⟨rfl,hc.2,hc.1,.inl rfl⟩
 ·rename_i h2
  split at h
  ·rename_i hc
   simp only[Bool.and_eq_true,decide_eq_true_eq] at hc;cases h;refine⟨rfl,hc.2,hc.1,.inr ⟨rfl,fun hl=>?_⟩⟩;cases hb:sym (x.take 2) with
   | false=>rfl
   | true=>exact absurd (by rw[hb];simpa using hl) h2
  ·cases h;exact absurd rfl hn
end Go.Lx
namespace Go.Lx
open Go.Ty
set_option maxRecDepth 100000
theorem b0T {P:B->Prop} (h0:P []) (h1:∀ r,P r->P (32::r)) (h2:∀ c r,c≠32->(tok (c::r)).2=0->P (c::r))
 (h3:∀ c r,c≠32->(tok (c::r)).2≠0->P ((c::r).drop (tok (c::r)).2)->P (c::r)):∀ r,P r:=by
 have key:∀ n,∀ r:B,r.length<=n->P r:=by
  intro n;induction n with
  | zero=>intro r hr;cases r with
   | nil=>exact h0
   | cons c r=>simp at hr
  | succ n ih=>
   intro r hr;cases r with
   | nil=>exact h0
   | cons c r=>
    by_cases hc:c=32
    ·subst hc;exact h1 r (ih r (by simpa using hr))
    ·by_cases hn:(tok (c::r)).2=0
     ·exact h2 c r hc hn
     ·exact h3 c r hc hn (ih _ (by rw[List.length_drop];simp only[List.length_cons] at hr ⊢;omega))
 exact fun r=>key r.length r (Nat.le_refl _)
theorem b3G {l:List Tok} {x:Except Nat (List Tok)} {m:List Tok} (h:a4R l x=.ok m):∃ k,x=.ok k/\m=l++k:=by
 cases x with
 | error e=>cases h
 | ok k=>cases h;exact⟨k,rfl,rfl⟩
end Go.Lx
namespace Go.Lx
open Go.Ty
set_option maxRecDepth 100000
theorem b5o {t:Tok} (h:J4 t=true):(t.kind=1/\t.n=0/\name t.text=true)\/(t.kind=2/\t.n=0/\key t.text=true)\/(t.kind=5/\t.n=0/\sym t.text=true)\/(t.kind=4/\t.text=[]/\0<=t.n/\t.n < 256)\/(t.kind=3/\t.text=[]):=by
 unfold J4 at h;split at h
 ·cases h
 ·split at h
  ·rename_i hk;simp at h hk;exact .inl ⟨hk,h.1,h.2⟩
  ·split at h
   ·rename_i hk;simp at h hk;exact .inr (.inl ⟨hk,h.1,h.2⟩)
   ·split at h
    ·rename_i hk;simp at h hk;exact .inr (.inr (.inl ⟨hk,h.1,h.2⟩))
    ·split at h
     ·rename_i hk;simp at h hk;exact .inr (.inr (.inr (.inl ⟨hk,h.1.1,h.1.2,h.2⟩)))
     ·simp at h;exact .inr (.inr (.inr (.inr h)))
end Go.Lx
namespace Go.Lx
open Go.Ty
set_option maxRecDepth 100000
def c3E:Option Tok->Nat->List Tok->List Tok
 | _,_,[]=>[]
 | p,q,t::l=>{ t with at_:=(q+(sep (a8g p t)).length:Nat) }::c3E (some t) (q+(sep (a8g p t)).length+(a0A t).length) l
theorem a6D (v:Int):-2147483648<=IntKind.i32.wrap v/\IntKind.i32.wrap v<=2147483647:=by
 unfold IntKind.wrap;simp[IntKind.bits,IntKind.signed];omega
theorem c2u (c:UInt8):chB a0X (esc c).toNat < 256/\0<=chB a0X (esc c).toNat:=by
 unfold chB;have:=(a0X.getD (esc c).toNat 0).toNat_lt;omega
theorem b4i (s:B):0<=(K0 s).1/\(K0 s).1 < 256:=by
 unfold K0;split
 ·exact⟨Int.le_refl 0,show(0:Int) < 256 by decide⟩
 ·split
  ·have:=(s.getD 0 0).toNat_lt
   show 0<=chB s 0/\chB s 0 < 256;unfold chB;omega
  ·split
   ·exact⟨Int.le_refl 0,show(0:Int) < 256 by decide⟩
   ·split
    ·have:=c2u (s.getD 1 0)
     exact⟨this.2,this.1⟩
    ·split
     ·exact⟨Int.le_refl 0,show(0:Int) < 256 by decide⟩
     ·split
      ·exact⟨Int.le_refl 0,show(0:Int) < 256 by decide⟩
      ·show 0<=(a04 _).1/\(a04 _).1 < 256
       unfold a04;rw[a3i];cases hv:a6g 16 ((s.drop 2).take 2) 0 with
       | none=>exact⟨Int.le_refl 0,show(0:Int) < 256 by decide⟩
       | some v=>
        have hb:=a1f (by decide) a3H _ 0 v (by decide) hv;have hl:((s.drop 2).take 2).length<=2:=by rw[List.length_take];omega
        have hp:(16:Int) ^ ((s.drop 2).take 2).length<=16 ^ 2:=by exact_mod_cast Nat.pow_le_pow_right (by decide) hl
        simp only;omega
theorem c0r {c:UInt8} {r:B} {t:Tok} {n:Nat} (h:tok (c::r)=(t,n)) (hn:n≠0) {z:Int} (hz:0<=z/\z < 256):J4 { t with at_:=z }=true/\(-2147483648<=t.n/\t.n<=2147483647):=by
 have h0:(decide (z < 0)||decide (z >= 256))=false:=by simp;omega
 unfold tok at h;rw[a2n] at h;split at h
 ·rename_i hl
  obtain⟨hr,_⟩:=b1U h hn;unfold a2A at h;split at h
  ·rename_i hk
   cases h;refine⟨?_,by show(-2147483648:Int)<=0/\(0:Int)<=2147483647;omega⟩;unfold J4;simp only[h0,hk];rfl
  ·rename_i hk
   split at h
   ·cases h;exact absurd rfl hn
   ·rename_i h32
    cases h;refine⟨?_,by show(-2147483648:Int)<=0/\(0:Int)<=2147483647;omega⟩;unfold J4;simp only[h0,b5h hl (by simpa using hk)];simpa using h32
 ·split at h
  ·obtain⟨_,hk,htx,_⟩:=b7l h hn
   refine⟨?_,?_⟩
   ·unfold J4
    simp only[h0,hk,htx];rfl
   ·unfold a8f at h
    split at h
    ·cases h;exact absurd rfl hn
    ·split at h
     ·cases h;exact absurd rfl hn
     ·split at h
      ·cases h;exact absurd rfl hn
      ·cases h;exact a6D _
  ·split at h
   ·obtain⟨_,hk,htx,_⟩:=b7m h hn
    refine⟨?_,?_⟩
    ·unfold J4
     simp only[h0,hk,htx];rfl
    ·unfold a9V at h
     split at h
     ·cases h;exact absurd rfl hn
     ·split at h
      ·cases h;exact absurd rfl hn
      ·cases h;exact a6D _
   ·split at h
    ·obtain⟨_,htk,_⟩:=b5f h hn
     have hv:=b4i r;subst htk;refine⟨?_,by show -2147483648<=(K0 r).1/\(K0 r).1<=2147483647;omega⟩;unfold J4;simp only[h0];simp;omega
    ·obtain⟨htk,hsy,_,_⟩:=b5a h hn
     subst htk;refine⟨?_,by show(-2147483648:Int)<=0/\(0:Int)<=2147483647;omega⟩;unfold J4;simp only[h0,hsy];rfl
theorem b9L:∀ s ∈ b3s,s.length<=32:=by decide +kernel
theorem c02:∀ s ∈ b07,s.length<=32:=by decide +kernel
theorem may_len {t:Tok} (h:J4 t=true):t.text.length<=32:=by
 rcases b5o h with ⟨_,_,h3⟩ | ⟨_,_,h3⟩ | ⟨_,_,h3⟩ | ⟨_,h3,_⟩ | ⟨_,h3⟩
 ·unfold name at h3
  simp only[Bool.and_eq_true,decide_eq_true_eq] at h3;have:=h3.1.1.1.2;omega
 ·exact b9L _ ((a0K _ _).1 (by rw[c2z] at h3;exact h3))
 ·exact c02 _ ((a0K _ _).1 (by rw[c2i] at h3;exact h3))
 ·rw[h3];exact Nat.zero_le _
 ·rw[h3];exact Nat.zero_le _
theorem lx_may:∀ (r:B) (p:Nat) (l:List Tok),lx r p=.ok l->p+r.length<=256->∀ x,x ∈ l->J4 x=true/\(-2147483648<=x.n/\x.n<=2147483647):=by
 refine b0T ?_ ?_ ?_ ?_
 ·intro p l h _ x hx;cases h;cases hx
 ·intro r ih p l h hp x hx
  rw[a6X] at h;exact ih _ _ h (by simp only[List.length_cons] at hp;omega) x hx
 ·intro c r hc hn p l h
  rw[lx_bad hc hn] at h;cases h
 ·intro c r hc hn ih p l h hp x hx
  rw[lx_tok hc hn] at h;obtain⟨k,hk,rfl⟩:=b3G h;have hle:=b2n (c::r);rcases List.mem_append.1 hx with hx | hx
  ·cases List.mem_singleton.1 hx
   exact c0r (show tok (c::r)=((tok (c::r)).1,(tok (c::r)).2) from rfl) hn (z:=(p:Int)) (by simp only[List.length_cons] at hp;omega)
  ·exact ih _ _ hk (by rw[List.length_drop];omega) x hx
end Go.Lx
namespace Go.Lx
open Go.Ty
set_option maxRecDepth 100000
theorem lx_len:∀ (r:B) (p:Nat) (l:List Tok),lx r p=.ok l->l.length<=r.length:=by
 refine b0T ?_ ?_ ?_ ?_
 ·intro p l h;cases h;exact Nat.le_refl _
 ·intro r ih p l h
  rw[a6X] at h;have:=ih _ _ h;simp only[List.length_cons];omega
 ·intro c r hc hn p l h
  rw[lx_bad hc hn] at h;cases h
 ·intro c r hc hn ih p l h
  rw[lx_tok hc hn] at h;obtain⟨k,hk,rfl⟩:=b3G h;have:=ih _ _ hk;have hle:=b2n (c::r);rw[List.length_drop] at this;simp only[List.length_append,List.length_singleton];omega
theorem lexO_ok {s:B} {l:List Tok} {z:Int} (h:lexO s=(l,z,0)):s.length<=256/\lx s 0=.ok l/\z=0:=by
 cases hd:decide ((s.length:Int) > 256) with
 | true=>rw[a3Q hd] at h;cases h
 | false=>
  rw[a4q hd] at h;cases hx:lx s 0 with
  | error e=>rw[hx] at h;cases h
  | ok m=>
   rw[hx] at h;cases h;have:=of_decide_eq_false hd;exact⟨by omega,rfl,rfl⟩
theorem lexO_no {s:B} {l:List Tok} {z e:Int} (h:lexO s=(l,z,e)) (he:e≠0):l=[]:=by
 cases hd:decide ((s.length:Int) > 256) with
 | true=>rw[a3Q hd] at h;cases h;rfl
 | false=>
  rw[a4q hd] at h;cases hx:lx s 0 with
  | error e=>rw[hx] at h;cases h;rfl
  | ok m=>rw[hx] at h;cases h;exact absurd rfl he
end Go.Lx
end
namespace Go.Xp
section
open Go.Eng Go
open Go.Ty (Tok B2)
open Go.Lx (J4)
set_option maxRecDepth 100000
def a6I (ts:List Tok):Prop:=C7 ts≠C1 [91]
def a9z (ts:List Tok):Prop:=opF (C7 ts) 22 1=0
theorem G2 {t:Tok} {r:List Tok} (h:J4 t=true) (ha:t.at_=0):C7 (t::r)=t:=by
 rw[a3x,if_pos h];cases t;cases ha;rfl
theorem M3 {ins:B->B->List Tok->a03} {ts:List Tok} {t:Tok} (h:C7 ts=t):Q1 ins ts=if t.kind=3 then .ok (sx 1 0 0 t.n [] [],ts.tail) else if t.kind=4 then .ok (sx 2 0 0 t.n [] [],ts.tail)
 else if t=C6 [70,65,76,83,69] then .ok (sx 3 0 0 0 [] [],ts.tail) else if t=C6 [84,82,85,69] then .ok (sx 3 0 0 1 [] [],ts.tail)
 else if t.kind=1 then (if C7 ts.tail=C1 [91] then (match ins [91] [93] ts.tail with
  | .ok (x,r)=>.ok (sx 5 0 0 0 t.text [x],r)
  | .error e=>.error e) else .ok (sx 4 0 0 0 t.text [],ts.tail))
 else if t=C1 [40] then ins [40] [41] ts else .error 100:=by subst h;rfl
theorem V6 {ins:B->B->List Tok->a03} {ts:List Tok} {t:Tok} (h:C7 ts=t):a0l ins ts=if t=C6 [83,73,90,69] then (if (C7 ts.tail).kind=1 then .ok (sx 9 0 0 0 (C7 ts.tail).text [],ts.tail.tail) else .error 100)
 else if a01 t≠0 then unQ (fun x=>sx 8 0 (a01 t) 0 [] [x]) (Q1 ins ts.tail)
 else if opF t 4 23≠0 then unQ (fun x=>sx 6 (opF t 4 23) 0 0 [] [x]) (Q1 ins ts.tail)
 else match Q1 ins ts with
  | .error e=>.error e
  | .ok (a,r)=>if opF (C7 r) 22 1≠0 then unQ (fun b=>sx 7 (opF (C7 r) 22 1) 0 0 [] [a,b]) (Q1 ins r.tail) else .ok (a,r):=by subst h;rfl
inductive Dp:Nat->Ex->Prop
 | mk {n:Nat} {e:Ex} (h:∀ x ∈ e.l,Dp n x):Dp (n+1) e
theorem Dp.part {n:Nat} {e x:Ex} (d:Dp (n+1) e) (hx:x ∈ e.l):Dp n x:=by cases d with | mk h=>exact h x hx
theorem Dp.pos {n:Nat} {e:Ex} (d:Dp n e):∃ k,n=k+1:=by cases d;exact⟨_,rfl⟩
theorem Dp.up {e:Ex}:∀ {n:Nat},Dp n e->Dp (n+1) e:=by
 refine Ex.ind (p:=fun e=>∀ {n:Nat},Dp n e->Dp (n+1) e) (fun e ih n d=>?_) e;obtain⟨k,rfl⟩:=d.pos;exact .mk fun x hx=>ih x hx (d.part hx)
def b7C (t:Tok):Prop:=t.kind=1\/t.kind=3\/t.kind=4\/t=C6 [70,65,76,83,69]\/t=C6 [84,82,85,69]\/t=C1 [40]
theorem b8t {t:Tok} (h:b7C t):t≠C6 [83,73,90,69]/\a01 t=0/\opF t 4 23=0:=by
 have key:t.kind=1\/t.kind=3\/t.kind=4->t≠C6 [83,73,90,69]/\a01 t=0/\opF t 4 23=0:=by
  intro hk;have hm:∀ s,t≠C6 s:=by
   rintro s rfl;have:=U4 s;omega
  have ho:∀ o,t≠I9 o:=fun o=>hm _
  refine⟨hm _,?_,?_⟩
  ·unfold a01
   rw[if_neg (hm _),if_neg (hm _),if_neg (hm _)]
  ·simp only[opF,if_neg (ho _)]
 rcases h with h | h | h | rfl | rfl | rfl
 ·exact key (.inl h)
 ·exact key (.inr (.inl h))
 ·exact key (.inr (.inr h))
 ·decide +kernel
 ·decide +kernel
 ·decide +kernel
theorem a9i (n:Int):J4 (a6j n)=true:=rfl
theorem a7L {n:Int} (h:0<=n/\n<=255):J4 (a0V n)=true:=by
 unfold J4 a0V;simp;omega
theorem a2m {s:B} (h:Go.Lx.name s=true):J4 (D5 s)=true:=by
 unfold J4 D5;simp[h]
theorem b8e:∀ o,o < 27->1<=o->J4 (I9 (o:Nat))=true:=by decide +kernel
theorem a3S {o:Int} (h:1<=o/\o<=26):J4 (I9 o)=true:=by
 have:=b8e o.toNat (by omega) (by omega);rwa [show((o.toNat:Nat):Int)=o by omega] at this
theorem b3x (o:Int):(I9 o).at_=0:=a2G _
theorem c2G:∀ o,o < 27->23<=o->(I9 (o:Nat)≠C6 [83,73,90,69])/\a01 (I9 (o:Nat))=0/\opF (I9 (o:Nat)) 4 23=o:=by decide +kernel
theorem c2r:∀ o,o < 23->1<=o->opF (I9 (o:Nat)) 22 1=o/\I9 (o:Nat)≠C1 [91]:=by decide +kernel
theorem b3Q:∀ k,k < 4->1<=k->J4 (C6 (K4 (k:Nat)))=true/\C6 (K4 (k:Nat))≠C6 [83,73,90,69]/\a01 (C6 (K4 (k:Nat)))=k:=by decide +kernel
theorem b0V {s:B} {r:List Tok} (h:J4 (C1 s)=true) (hs:s≠[91]):a6I (C1 s::r):=by
 unfold a6I;rw[G2 h rfl];intro q;exact hs (congrArg Tok.text q)
theorem b9T (r:List Tok):a9z (C1 [93]::r):=by
 unfold a9z;rw[G2 (by decide +kernel) rfl];decide +kernel
theorem b9c (r:List Tok):a9z (C1 [41]::r):=by
 unfold a9z;rw[G2 (by decide +kernel) rfl];decide +kernel
theorem b6f {f:Nat} {o s:B} {ts r:List Tok} {x:Ex} (ho:J4 (C1 o)=true) (hs:J4 (C1 s)=true) (h:a0l (S9 f) ts=.ok (x,C1 s::r)):S9 (f+1) o s (C1 o::ts)=.ok (x,r):=by
 unfold S9;rw[G2 ho rfl,if_pos rfl];show(match a0l (S9 f) ts with | .error e=>.error e | .ok (x,r)=>if C7 r=C1 s then .ok (x,r.tail) else .error 100:a03)=_;rw[h];show(if C7 (C1 s::r)=C1 s then .ok (x,(C1 s::r).tail) else .error 100:a03)=_;rw[G2 hs rfl,if_pos rfl];rfl
section
variable {e:Ex} (hF:Fine e)
include hF
theorem a5J (hn:-2147483648<=e.n/\e.n<=2147483647) (h:e.k=2):0<=e.n/\e.n<=255:=by
 have h1:=hF.ok;unfold D4 at h1;simp only[h] at h1;by_cases hb:a4B .i32 e.n 8=0
 ·exact(c4w hn).1 hb
 ·simp[hb] at h1
theorem a0P (h:e.k=4\/e.k=5\/e.k=9):Go.Lx.name e.s=true:=by
 have h1:=hF.ok;unfold D4 at h1;cases hb:Go.Lx.name e.s with
 | true=>rfl
 | false=>rcases h with h | h | h <;> simp[h,hb] at h1
theorem b1i (ho:0<=e.o/\e.o<=255) (h:e.k=6):23<=e.o/\e.o<=26:=by
 have h1:=hF.ok;unfold D4 at h1;simp only[h] at h1;by_cases h2:e.o < 23
 ·simp[h2] at h1
 ·have h3:=b6T (o:=e.o) (by omega)
  rw[h3] at h1;by_cases h4:e.o - 23 >= 4
  ·simp[h2,h4] at h1
  ·omega
theorem b1s (h:e.k=7):1<=e.o/\e.o<=22:=by
 have h1:=hF.ok;unfold D4 at h1;simp only[h] at h1;by_cases h2:e.o < 1
 ·simp[h2] at h1
 ·by_cases h4:e.o > 22
  ·simp[h2,h4] at h1
  ·omega
theorem a8Q (h:e.k=8):1<=e.t/\e.t<=3:=by
 have h1:=hF.ok;unfold D4 at h1;simp only[h] at h1;by_cases h2:e.t=1
 ·omega
 by_cases h3:e.t=2
 ·omega
 by_cases h4:e.t=3
 ·omega
 simp[K4,h2,h3,h4] at h1
theorem b4D (h:e.k=1\/e.k=2\/e.k=3\/e.k=4\/e.k=9):e.l=[]:=by
 have h1:=hF.ok;have h2:=hF.num;have:(D4 e).1=0:=by
  unfold D4 at h1 ⊢;rcases h with h | h | h | h | h <;> simp only[h] at h1 ⊢ <;> (revert h1;simp) <;> split <;> simp
 rw[this] at h2;match hl:e.l with
 | []=>rfl
 | _::_=>rw[hl] at h2;simp at h2;omega
end
theorem b2V {e:Ex} (hF:Fine e):B8 e=(if e.k=1 then sx 1 0 0 e.n [] [] else if e.k=2 then sx 2 0 0 e.n [] [] else if e.k=3 then sx 3 0 0 e.n [] [] else if e.k=4 then sx 4 0 0 0 e.s []
 else if e.k=9 then sx 9 0 0 0 e.s [] else if e.k=5 then sx 5 0 0 0 e.s (e.l.map B8) else if e.k=6 then sx 6 e.o 0 0 [] (e.l.map B8) else if e.k=7 then sx 7 e.o 0 0 [] (e.l.map B8) else sx 8 0 e.t 0 [] (e.l.map B8)):=by
 have h1:=hF.ok;have hl:=b4D hF;rw[V8];unfold D4 at h1;rcases a0R hF with h | h | h | h | h | h | h | h | h
 ·simp only[h] at h1 ⊢
  rw[hl (by omega)];simp[fin] at h1;simp[sx,h1]
 ·simp only[h] at h1 ⊢
  rw[hl (by omega)];revert h1
  simp only[show ¬ ((2:Int)=1) by decide,if_false,if_true];split
  ·intro h1;cases h1
  ·intro h1
   simp[fin] at h1;simp[sx,h1]
 ·simp only[h] at h1 ⊢
  rw[hl (by omega)];revert h1
  simp only[show ¬ ((3:Int)=1) by decide,show ¬ ((3:Int)=2) by decide,if_false,if_true];split
  ·intro h1;cases h1
  ·intro h1
   simp[fin] at h1;simp[sx,h1]
 ·simp only[h] at h1 ⊢
  rw[hl (by omega)];revert h1
  cases Go.Lx.name e.s
  ·simp
  ·intro h1
   simp[fin] at h1;simp[sx,h1]
 ·simp only[h] at h1 ⊢
  rw[hl (by omega)];revert h1
  cases Go.Lx.name e.s
  ·simp
  ·intro h1
   simp[fin] at h1;simp[sx,h1]
 ·simp only[h] at h1 ⊢
  revert h1
  cases Go.Lx.name e.s
  ·simp
  ·intro h1
   simp[fin] at h1;simp[sx,h1]
 ·simp only[h] at h1 ⊢
  revert h1
  simp only[show ¬ ((6:Int)=1) by decide,show ¬ ((6:Int)=2) by decide,show ¬ ((6:Int)=3) by decide,show ¬ ((6:Int)=4) by decide,show ¬ ((6:Int)=9) by decide,show ¬ ((6:Int)=5) by decide,if_false,if_true];split
  ·intro h1;cases h1
  ·intro h1
   simp[fin] at h1;simp[sx,h1]
 ·simp only[h] at h1 ⊢
  revert h1
  simp only[show ¬ ((7:Int)=1) by decide,show ¬ ((7:Int)=2) by decide,show ¬ ((7:Int)=3) by decide,show ¬ ((7:Int)=4) by decide,show ¬ ((7:Int)=9) by decide,show ¬ ((7:Int)=5) by decide,show ¬ ((7:Int)=6) by decide,if_false,if_true];split
  ·intro h1;cases h1
  ·intro h1
   simp[fin] at h1;simp[sx,h1]
 ·simp only[h] at h1 ⊢
  revert h1
  simp only[show ¬ ((8:Int)=1) by decide,show ¬ ((8:Int)=2) by decide,show ¬ ((8:Int)=3) by decide,show ¬ ((8:Int)=4) by decide,show ¬ ((8:Int)=9) by decide,show ¬ ((8:Int)=5) by decide,show ¬ ((8:Int)=6) by decide,show ¬ ((8:Int)=7) by decide,if_false,if_true];split
  ·intro h1;cases h1
  ·intro h1
   simp[fin] at h1;simp[sx,h1]
theorem a6U {e:Ex} (hF:Fine e) (hn:-2147483648<=e.n/\e.n<=2147483647) (rest:List Tok):b7C (C7 (C5 e++rest)):=by
 rcases a0R hF with h | h | h | h | h | h | h | h | h
 ·rw[show C5 e++rest=a6j e.n::rest by unfold C5 K9 par;rw[D9];simp[wr,h],G2 (a9i _) rfl]
  exact .inr (.inl rfl)
 ·rw[show C5 e++rest=a0V e.n::rest by unfold C5 K9 par;rw[D9];simp[wr,h],G2 (a7L (a5J hF hn h)) rfl]
  exact .inr (.inr (.inl rfl))
 ·rcases a5G hn hF h with h0 | h0
  ·rw[show C5 e++rest=C6 [70,65,76,83,69]::rest by unfold C5 K9 par;rw[D9];simp[wr,h,h0],G2 (by decide +kernel) (a2G _)]
   exact .inr (.inr (.inr (.inl rfl)))
  ·rw[show C5 e++rest=C6 [84,82,85,69]::rest by unfold C5 K9 par;rw[D9];simp[wr,h,h0],G2 (by decide +kernel) (a2G _)]
   exact .inr (.inr (.inr (.inr (.inl rfl))))
 ·rw[show C5 e++rest=D5 e.s::rest by unfold C5 K9 par;rw[D9];simp[wr,h],G2 (a2m (a0P hF (.inl h))) rfl]
  exact .inl rfl
 ·rw[show C5 e++rest=C1 [40]::((A9 e++[C1 [41]])++rest) by unfold C5 K9 par;simp[h],G2 (by decide +kernel) rfl]
  exact .inr (.inr (.inr (.inr (.inr rfl))))
 ·obtain⟨x,hx⟩:=Q2 hF (.inl h)
  rw[show C5 e++rest=D5 e.s::(C1 [91]::(A9 x++[C1 [93]])++rest) by unfold C5 K9 par;rw[D9];simp[wr,h,hx,N8],G2 (a2m (a0P hF (.inr (.inl h)))) rfl];exact .inl rfl
 ·rw[show C5 e++rest=C1 [40]::((A9 e++[C1 [41]])++rest) by unfold C5 K9 par;simp[h],G2 (by decide +kernel) rfl]
  exact .inr (.inr (.inr (.inr (.inr rfl))))
 ·rw[show C5 e++rest=C1 [40]::((A9 e++[C1 [41]])++rest) by unfold C5 K9 par;simp[h],G2 (by decide +kernel) rfl]
  exact .inr (.inr (.inr (.inr (.inr rfl))))
 ·rw[show C5 e++rest=C1 [40]::((A9 e++[C1 [41]])++rest) by unfold C5 K9 par;simp[h],G2 (by decide +kernel) rfl]
  exact .inr (.inr (.inr (.inr (.inr rfl))))
abbrev RdE (e:Ex):Prop:=∀ f,Dp (f+1) e->∀ rest,a6I rest->a9z rest->a0l (S9 f) (A9 e++rest)=.ok (B8 e,rest)
abbrev RdO (e:Ex):Prop:=∀ f,Dp (f+1) e->(par e.k=true->Dp f e)->∀ rest,a6I rest->Q1 (S9 f) (C5 e++rest)=.ok (B8 e,rest)
theorem a7O {f:Nat} {ts r:List Tok} {x:Ex} (hs:b7C (C7 ts)) (ho:Q1 (S9 f) ts=.ok (x,r)):a0l (S9 f) ts=if opF (C7 r) 22 1≠0 then unQ (fun b=>sx 7 (opF (C7 r) 22 1) 0 0 [] [x,b]) (Q1 (S9 f) r.tail) else .ok (x,r):=by
 obtain⟨h1,h2,h3⟩:=b8t hs;unfold a0l;simp only[if_neg h1,h2,h3,ho,ne_eq,not_true,if_false]
theorem c2p {f:Nat} {ts r:List Tok} {x:Ex} (h:S9 f [40] [41] (C1 [40]::ts)=.ok (x,r)):Q1 (S9 f) (C1 [40]::ts)=.ok (x,r):=by
 rw[M3 (G2 (by decide +kernel) rfl),if_neg (by decide),if_neg (by decide),if_neg (by decide +kernel),if_neg (by decide +kernel),if_neg (by decide),if_pos rfl];exact h
theorem b7t {e:Ex} (h:par e.k=true) (hE:RdE e):RdO e:=by
 intro f hd hp rest hb;obtain⟨k,rfl⟩:=(hp h).pos;have he:=hE k (hp h) (C1 [41]::rest) (b0V (by decide +kernel) (by decide)) (b9c rest);rw[show C5 e++rest=C1 [40]::(A9 e++C1 [41]::rest) by unfold C5 K9;rw[h];simp];exact c2p (b6f (by decide +kernel) (by decide +kernel) he)
theorem b6Q {e:Ex} (hp:par e.k=false) (hF:Fine e) (hn:-2147483648<=e.n/\e.n<=2147483647) (hO:RdO e):RdE e:=by
 intro f hd rest hb ho;have h1:=hO f hd (fun q=>by rw[hp] at q;cases q) rest hb;have hs:=a6U hF hn rest;rw[show A9 e=C5 e by unfold C5 K9;rw[hp];rfl,a7O hs h1,if_neg (fun q=>q ho)]
theorem c3F (e:Ex):Fine e->Wf e->RdE e/\RdO e:=by
 refine Ex.ind (p:=fun e=>Fine e->Wf e->RdE e/\RdO e) (fun e ih hF hW=>?_) e;obtain⟨⟨hk,hor,ht⟩,hn,hs⟩:=hW.spec;have fs:=b2V hF;have lit (hp:par e.k=false) (hO:RdO e):RdE e/\RdO e:=⟨b6Q hp hF hn hO,hO⟩;have brk (hp:par e.k=true) (hE:RdE e):RdE e/\RdO e:=⟨hE,b7t hp hE⟩;rcases a0R hF with h | h | h | h | h | h | h | h | h
 ·refine lit (by simp[par,h]) fun f _ _ rest hb=>?_
  rw[show C5 e++rest=a6j e.n::rest by unfold C5 K9 par;rw[D9];simp[wr,h]];rw[M3 (G2 (a9i _) rfl),if_pos (show(a6j e.n).kind=3 from rfl),fs];simp[h];rfl
 ·refine lit (by simp[par,h]) fun f _ _ rest hb=>?_
  rw[show C5 e++rest=a0V e.n::rest by unfold C5 K9 par;rw[D9];simp[wr,h]];rw[M3 (G2 (a7L (a5J hF hn h)) rfl),if_neg (by show ¬ (4:Int)=3;decide),if_pos (show(a0V e.n).kind=4 from rfl),fs];simp[h];rfl
 ·refine lit (by simp[par,h]) fun f _ _ rest hb=>?_
  rcases a5G hn hF h with h0 | h0
  ·rw[show C5 e++rest=C6 [70,65,76,83,69]::rest by unfold C5 K9 par;rw[D9];simp[wr,h,h0]]
   rw[M3 (G2 (by decide +kernel) (a2G _)),if_neg (by decide +kernel),if_neg (by decide +kernel),if_pos rfl,fs];simp[h,h0]
  ·rw[show C5 e++rest=C6 [84,82,85,69]::rest by unfold C5 K9 par;rw[D9];simp[wr,h,h0]]
   rw[M3 (G2 (by decide +kernel) (a2G _)),if_neg (by decide +kernel),if_neg (by decide +kernel),if_neg (by decide +kernel),if_pos rfl,fs];simp[h,h0]
 ·refine lit (by simp[par,h]) fun f _ _ rest hb=>?_
  have hnm:∀ s,D5 e.s≠C6 s:=fun s q=>by
   have:=U4 s;rw[<- q] at this;rcases this with h | h <;> cases h
  rw[show C5 e++rest=D5 e.s::rest by unfold C5 K9 par;rw[D9];simp[wr,h]];rw[M3 (G2 (a2m (a0P hF (.inl h))) rfl),if_neg (by show ¬ (1:Int)=3;decide),if_neg (by show ¬ (1:Int)=4;decide),if_neg (hnm _),if_neg (hnm _),if_pos (show(D5 e.s).kind=1 from rfl),List.tail_cons,if_neg hb,fs];simp[h];rfl
 ·refine brk (by simp[par,h]) fun f _ rest hb ho=>?_
  rw[show A9 e++rest=C6 [83,73,90,69]::D5 e.s::rest by rw[D9];simp[wr,h]];rw[V6 (G2 (by decide +kernel) (a2G _)),if_pos rfl,List.tail_cons,G2 (a2m (a0P hF (.inr (.inr h)))) rfl,if_pos (show(D5 e.s).kind=1 from rfl),fs];simp[h];rfl
 ·obtain⟨x,hx⟩:=Q2 hF (.inl h)
  have hxm:x ∈ e.l:=by rw[hx];exact List.Mem.head _
  obtain⟨iE,_⟩:=ih x hxm (hF.part hxm) (hW.part hxm);have hnm:∀ s,D5 e.s≠C6 s:=fun s q=>by
   have:=U4 s;rw[<- q] at this;rcases this with h | h <;> cases h
  refine lit (by simp[par,h]) fun f hd _ rest hb=>?_
  obtain⟨k,rfl⟩:=(hd.part hxm).pos;have he:=iE k (hd.part hxm) (C1 [93]::rest) (b0V (by decide +kernel) (by decide)) (b9T rest);have hi:S9 (k+1) [91] [93] (C1 [91]::(A9 x++C1 [93]::rest))=.ok (B8 x,rest):=b6f (by decide +kernel) (by decide +kernel) he;rw[show C5 e++rest=D5 e.s::C1 [91]::(A9 x++C1 [93]::rest) by unfold C5 K9 par;rw[D9];simp[wr,h,hx,N8]];rw[M3 (G2 (a2m (a0P hF (.inr (.inl h)))) rfl),if_neg (by show ¬ (1:Int)=3;decide),if_neg (by show ¬ (1:Int)=4;decide),if_neg (hnm _),if_neg (hnm _),if_pos (show(D5 e.s).kind=1 from rfl),List.tail_cons,G2 (by decide +kernel) rfl,if_pos rfl,hi,fs];simp[h,hx];rfl
 ·obtain⟨x,hx⟩:=Q2 hF (.inr (.inl h))
  have hxm:x ∈ e.l:=by rw[hx];exact List.Mem.head _
  obtain⟨_,iO⟩:=ih x hxm (hF.part hxm) (hW.part hxm);have hm:=b1i hF hor h;obtain⟨o,ho⟩:∃ o:Nat,e.o=o:=⟨e.o.toNat,by omega⟩;obtain⟨q1,q2,q3⟩:=c2G o (by omega) (by omega);refine brk (by simp[par,h]) fun f hd rest hb _=>?_
  have he:=iO f (hd.part hxm).up (fun _=>hd.part hxm) rest hb;rw[show A9 e++rest=I9 e.o::(C5 x++rest) by rw[D9];simp[wr,h,hx,N8,C5]];rw[V6 (G2 (a3S (by omega)) (b3x _)),ho];simp only[if_neg q1,q2,q3,List.tail_cons,he,ne_eq,not_true,if_false];rw[if_pos (by omega),fs];simp[h,hx,ho,unQ]
 ·obtain⟨x,y,hx⟩:=a3U hF h
  have hxm:x ∈ e.l:=by rw[hx];exact List.Mem.head _
  have hym:y ∈ e.l:=by rw[hx];exact List.Mem.tail _ (List.Mem.head _)
  obtain⟨_,iO⟩:=ih x hxm (hF.part hxm) (hW.part hxm);obtain⟨_,jO⟩:=ih y hym (hF.part hym) (hW.part hym);have hm:=b1s hF h;obtain⟨o,ho⟩:∃ o:Nat,e.o=o:=⟨e.o.toNat,by omega⟩;obtain⟨q1,q2⟩:=c2r o (by omega) (by omega);refine brk (by simp[par,h]) fun f hd rest hb _=>?_
  have hnx:∀ r,C7 (I9 e.o::r)=I9 e.o:=fun r=>G2 (a3S (by omega)) (b3x _)
  have he:=iO f (hd.part hxm).up (fun _=>hd.part hxm) (I9 e.o::(C5 y++rest)) (by unfold a6I;rw[hnx,ho];exact q2);have hf:=jO f (hd.part hym).up (fun _=>hd.part hym) rest hb;have hst:=a6U (hF.part hxm) (hW.part hxm).spec.2.1 (I9 e.o::(C5 y++rest));rw[show A9 e++rest=C5 x++(I9 e.o::(C5 y++rest)) by rw[D9];simp[wr,h,hx,N8,C5],a7O hst he,hnx,ho,q1,if_pos (by omega),List.tail_cons,hf,fs];simp[h,hx,ho,unQ]
 ·obtain⟨x,hx⟩:=Q2 hF (.inr (.inr h))
  have hxm:x ∈ e.l:=by rw[hx];exact List.Mem.head _
  obtain⟨_,iO⟩:=ih x hxm (hF.part hxm) (hW.part hxm);have hm:=a8Q hF h;obtain⟨o,ho⟩:∃ o:Nat,e.t=o:=⟨e.t.toNat,by omega⟩;obtain⟨q0,q1,q2⟩:=b3Q o (by omega) (by omega);refine brk (by simp[par,h]) fun f hd rest hb _=>?_
  have he:=iO f (hd.part hxm).up (fun _=>hd.part hxm) rest hb;rw[show A9 e++rest=C6 (K4 e.t)::(C5 x++rest) by rw[D9];simp[wr,h,hx,N8,C5]];rw[ho,V6 (G2 q0 (a2G _))];simp only[if_neg q1,q2,List.tail_cons,he,ne_eq];rw[if_pos (by omega),fs];simp[h,hx,ho,unQ]
abbrev a1D (u:Tok):Prop:=J4 u=true/\(-2147483648<=u.n/\u.n<=2147483647)
theorem z0:(-2147483648:Int)<=0/\(0:Int)<=2147483647:=by decide
theorem a0Q {s:B} (h:J4 (C6 s)=true):a1D (C6 s):=⟨h,by unfold C6;split <;> exact z0⟩
theorem a4V {s:B} (h:J4 (C1 s)=true):a1D (C1 s):=⟨h,z0⟩
theorem a3O {p:Bool × List Tok} (h:∀ u ∈ p.2,a1D u):∀ u ∈ K9 p,a1D u:=by
 unfold K9;split
 ·intro u hu
  rcases List.mem_cons.1 hu with rfl | hu
  ·exact a4V (by decide +kernel)
  ·rcases List.mem_append.1 hu with hu | hu
   ·exact h u hu
   ·rw[List.mem_singleton] at hu
    subst hu;exact a4V (by decide +kernel)
 ·exact h
theorem N1 {t:Tok} {l:List Tok} (h:a1D t) (hl:∀ u ∈ l,a1D u):∀ u ∈ t::l,a1D u:=fun u hu=>by
 rcases List.mem_cons.1 hu with rfl | hu
 ·exact h
 ·exact hl u hu
theorem b0C {k l:List Tok} (h:∀ u ∈ k,a1D u) (hl:∀ u ∈ l,a1D u):∀ u ∈ k++l,a1D u:=fun u hu=>by
 rcases List.mem_append.1 hu with hu | hu
 ·exact h u hu
 ·exact hl u hu
theorem a1c:∀ u ∈ ([]:List Tok),a1D u:=fun _ hu=>(List.not_mem_nil hu).elim
theorem a8V (e:Ex):Fine e->Wf e->∀ u ∈ A9 e,a1D u:=by
 refine Ex.ind (p:=fun e=>Fine e->Wf e->∀ u ∈ A9 e,a1D u) (fun e ih hF hW=>?_) e;obtain⟨⟨hk,hor,ht⟩,hn,hs⟩:=hW.spec;have nm (h:e.k=4\/e.k=5\/e.k=9):a1D (D5 e.s):=⟨a2m (a0P hF h),z0⟩;rcases a0R hF with h | h | h | h | h | h | h | h | h
 ·rw[show A9 e=[a6j e.n] by rw[D9];simp[wr,h]]
  exact N1 ⟨a9i _,hn⟩ a1c
 ·rw[show A9 e=[a0V e.n] by rw[D9];simp[wr,h]]
  exact N1 ⟨a7L (a5J hF hn h),hn⟩ a1c
 ·rcases a5G hn hF h with h0 | h0
  ·rw[show A9 e=[C6 [70,65,76,83,69]] by rw[D9];simp[wr,h,h0]]
   exact N1 (a0Q (by decide +kernel)) a1c
  ·rw[show A9 e=[C6 [84,82,85,69]] by rw[D9];simp[wr,h,h0]]
   exact N1 (a0Q (by decide +kernel)) a1c
 ·rw[show A9 e=[D5 e.s] by rw[D9];simp[wr,h]]
  exact N1 (nm (.inl h)) a1c
 ·rw[show A9 e=[C6 [83,73,90,69],D5 e.s] by rw[D9];simp[wr,h]]
  exact N1 (a0Q (by decide +kernel)) (N1 (nm (.inr (.inr h))) a1c)
 ·obtain⟨x,hx⟩:=Q2 hF (.inl h)
  have hxm:x ∈ e.l:=by rw[hx];exact List.Mem.head _
  rw[show A9 e=D5 e.s::C1 [91]::(A9 x++[C1 [93]]) by rw[D9];simp[wr,h,hx,N8]];exact N1 (nm (.inr (.inl h))) (N1 (a4V (by decide +kernel)) (b0C (ih x hxm (hF.part hxm) (hW.part hxm)) (N1 (a4V (by decide +kernel)) a1c)))
 ·obtain⟨x,hx⟩:=Q2 hF (.inr (.inl h))
  have hxm:x ∈ e.l:=by rw[hx];exact List.Mem.head _
  have hm:=b1i hF hor h;rw[show A9 e=I9 e.o::K9 (par x.k,A9 x) by rw[D9];simp[wr,h,hx,N8]];exact N1 (a0Q (a3S (by omega))) (a3O (ih x hxm (hF.part hxm) (hW.part hxm)))
 ·obtain⟨x,y,hx⟩:=a3U hF h
  have hxm:x ∈ e.l:=by rw[hx];exact List.Mem.head _
  have hym:y ∈ e.l:=by rw[hx];exact List.Mem.tail _ (List.Mem.head _)
  have hm:=b1s hF h;rw[show A9 e=K9 (par x.k,A9 x)++I9 e.o::K9 (par y.k,A9 y) by rw[D9];simp[wr,h,hx,N8]];exact b0C (a3O (ih x hxm (hF.part hxm) (hW.part hxm))) (N1 (a0Q (a3S (by omega))) (a3O (ih y hym (hF.part hym) (hW.part hym))))
 ·obtain⟨x,hx⟩:=Q2 hF (.inr (.inr h))
  have hxm:x ∈ e.l:=by rw[hx];exact List.Mem.head _
  have hm:=a8Q hF h;obtain⟨o,ho⟩:∃ o:Nat,e.t=o:=⟨e.t.toNat,by omega⟩;rw[show A9 e=C6 (K4 e.t)::K9 (par x.k,A9 x) by rw[D9];simp[wr,h,hx,N8],ho];exact N1 (a0Q (b3Q o (by omega) (by omega)).1) (a3O (ih x hxm (hF.part hxm) (hW.part hxm)))
end
section
open Go.Eng Go
open Go.Ty (Tok B2)
open Go.Lx (J4)
set_option maxRecDepth 100000
def c2g (rd:List Tok->a03) (ok:List Tok->Prop) (sz:Ex->Nat):Prop:=
 ∀ ts x r,rd ts=.ok (x,r)->∃ p,(ts=p++r/\1<=p.length)/\sz x<=p.length/\∀ r',ok r'->rd (p++r')=.ok (x,r')
abbrev wl (x:Ex):Nat:=(A9 x).length
abbrev ol (x:Ex):Nat:=(C5 x).length
abbrev c1Q (ins:B->B->List Tok->a03):Prop:=∀ o s,s=[93]\/s=[41]->c2g (ins o s) (fun _=>True) (fun x=>wl x+2)
theorem c2Y (x:Ex):ol x<=wl x+2:=a2c (par x.k,A9 x)
theorem b7c {x:Ex} (h:par x.k=false):ol x=wl x:=by
 unfold ol wl C5 K9;rw[h];rfl
theorem c3U (x:Ex):wl x<=ol x:=by
 unfold wl ol C5 K9;split
 ·simp only[List.length_cons,List.length_append]
  omega
 ·exact Nat.le_refl _
theorem b1J:C7 []=zeroT:=rfl
theorem a02 (s:B):zeroT≠C6 s:=fun e=>by
 have hk:(0:Int)=(C6 s).kind:=congrArg Tok.kind e;rcases U4 s with h | h
 ·have:=hk.trans h;omega
 ·have:=hk.trans h;omega
theorem b0J {ins:B->B->List Tok->a03}:Q1 ins []=.error 100:=by
 rw[M3 b1J,if_neg (by decide),if_neg (by decide),if_neg (a02 _),if_neg (a02 _),if_neg (by decide),if_neg (by decide)]
theorem b4n {ins:B->B->List Tok->a03} (hi:c1Q ins):c2g (Q1 ins) a6I ol:=by
 intro ts x r h;cases ts with
 | nil=>rw[b0J] at h;cases h
 | cons t q=>
  obtain⟨u,hu⟩:∃ u,∀ q',C7 (t::q')=u:=⟨_,fun _=>rfl⟩;rw[M3 (hu q),List.tail_cons] at h;have one:∀ {x:Ex},wl x=1->par x.k=false->ol x<=[t].length:=fun h1 h2=>by rw[b7c h2,h1];exact Nat.le_refl 1
  by_cases k3:u.kind=3
  ·rw[if_pos k3] at h
   cases h;exact⟨[t],⟨rfl,Nat.le_refl 1⟩,one rfl rfl,fun r' _=>by rw[List.singleton_append,M3 (hu r'),if_pos k3];rfl⟩
  rw[if_neg k3] at h;by_cases k4:u.kind=4
  ·rw[if_pos k4] at h
   cases h;exact⟨[t],⟨rfl,Nat.le_refl 1⟩,one rfl rfl,fun r' _=>by rw[List.singleton_append,M3 (hu r'),if_neg k3,if_pos k4];rfl⟩
  rw[if_neg k4] at h;by_cases f:u=C6 [70,65,76,83,69]
  ·rw[if_pos f] at h
   cases h;exact⟨[t],⟨rfl,Nat.le_refl 1⟩,one rfl rfl,fun r' _=>by rw[List.singleton_append,M3 (hu r'),if_neg k3,if_neg k4,if_pos f];rfl⟩
  rw[if_neg f] at h;by_cases g:u=C6 [84,82,85,69]
  ·rw[if_pos g] at h
   cases h;exact⟨[t],⟨rfl,Nat.le_refl 1⟩,one rfl rfl,fun r' _=>by rw[List.singleton_append,M3 (hu r'),if_neg k3,if_neg k4,if_neg f,if_pos g];rfl⟩
  rw[if_neg g] at h;by_cases k1:u.kind=1
  ·rw[if_pos k1] at h
   by_cases b:C7 q=C1 [91]
   ·rw[if_pos b] at h
    cases hq:ins [91] [93] q with
    | error e=>rw[hq] at h;cases h
    | ok w=>
     obtain⟨y,r1⟩:=w;rw[hq] at h;cases h;obtain⟨p,⟨hp,hp1⟩,hs,hf⟩:=hi [91] [93] (.inl rfl) q y _ hq;refine⟨t::p,⟨by rw[hp];rfl,Nat.succ_le_succ (Nat.zero_le _)⟩,?_,fun r' _=>?_⟩
     ·rw[b7c rfl]
      show(D5 u.text::C1 [91]::(A9 y++[C1 [93]])).length<=(t::p).length;simp only[List.length_cons,List.length_append,List.length_nil];simp only[wl] at hs;omega
     ·have hb:C7 (p++r')=C1 [91]:=by
       rw[hp] at b;cases p with
       | nil=>exact absurd hp1 (by decide)
       | cons v w=>exact b
      rw[List.cons_append,M3 (hu _),if_neg k3,if_neg k4,if_neg f,if_neg g,if_pos k1,List.tail_cons,if_pos hb,hf r' trivial]
   ·rw[if_neg b] at h
    cases h;exact⟨[t],⟨rfl,Nat.le_refl 1⟩,one rfl rfl,fun r' hr=>by rw[List.singleton_append,M3 (hu r'),if_neg k3,if_neg k4,if_neg f,if_neg g,if_pos k1,List.tail_cons,if_neg hr]⟩
  rw[if_neg k1] at h;by_cases o:u=C1 [40]
  ·rw[if_pos o] at h
   obtain⟨p,⟨hp,hp1⟩,hs,hf⟩:=hi [40] [41] (.inr rfl) _ x r h;refine⟨p,⟨hp,hp1⟩,Nat.le_trans (c2Y x) hs,fun r' _=>?_⟩;cases p with
   | nil=>exact absurd hp1 (by decide)
   | cons v w=>
    have hv:v=t:=(List.cons.inj hp).1.symm;subst hv;rw[List.cons_append,M3 (hu _),if_neg k3,if_neg k4,if_neg f,if_neg g,if_neg k1,if_pos o];exact hf r' trivial
  ·rw[if_neg o] at h
   cases h
theorem b2e {mk:Ex->Ex} {p:a03} {x:Ex} {r:List Tok} (h:unQ mk p=.ok (x,r)):∃ y,p=.ok (y,r)/\x=mk y:=by
 cases p with
 | error e=>cases h
 | ok q=>
  obtain⟨y,z⟩:=q;cases h;exact⟨y,rfl,rfl⟩
theorem a5C:∀ n o:Nat,opF zeroT n o=0
 | 0,_=>rfl
 | n+1,o=>by
  unfold opF;rw[if_neg (show zeroT≠I9 o from a02 _)];exact a5C n (o+1)
theorem b7u {ins:B->B->List Tok->a03}:a0l ins []=.error 100:=by
 rw[V6 b1J,if_neg (a02 _),if_neg (by unfold a01;rw[if_neg (a02 _),if_neg (a02 _),if_neg (a02 _)];decide),if_neg (by rw[a5C];decide),b0J]
theorem b8o {p:List Tok} (hp:1<=p.length) (r r':List Tok):C7 (p++r)=C7 (p++r'):=by
 cases p with
 | nil=>exact absurd hp (by decide)
 | cons t q=>rfl
theorem a8r {ins:B->B->List Tok->a03} (hi:c1Q ins):c2g (a0l ins) (fun r=>a6I r/\a9z r) wl:=by
 have hO:=b4n hi;intro ts x r h;cases ts with
 | nil=>rw[b7u] at h;cases h
 | cons t q=>
  obtain⟨u,hu⟩:∃ u,∀ q',C7 (t::q')=u:=⟨_,fun _=>rfl⟩;rw[V6 (hu q),List.tail_cons] at h;by_cases k1:u=C6 [83,73,90,69]
  ·rw[if_pos k1] at h
   by_cases k2:(C7 q).kind=1
   ·rw[if_pos k2] at h
    cases q with
    | nil=>cases k2
    | cons v w=>
     cases h;refine⟨[t,v],⟨rfl,Nat.succ_le_succ (Nat.zero_le _)⟩,Nat.le_refl 2,fun r' _=>?_⟩;rw[show[t,v]++r'=t::v::r' from rfl,V6 (hu _),List.tail_cons,if_pos k1,if_pos (show(C7 (v::r')).kind=1 from k2)];rfl
   ·rw[if_neg k2] at h
    cases h
  rw[if_neg k1] at h;by_cases k2:a01 u≠0
  ·rw[if_pos k2] at h
   obtain⟨y,hy,rfl⟩:=b2e h;obtain⟨p,⟨hp,hp1⟩,hs,hf⟩:=hO q y r hy;refine⟨t::p,⟨by rw[hp];rfl,Nat.succ_le_succ (Nat.zero_le _)⟩,?_,fun r' hr=>?_⟩
   ·show(C6 (K4 (a01 u))::C5 y).length<=(t::p).length
    exact Nat.succ_le_succ hs
   ·rw[List.cons_append,V6 (hu _),List.tail_cons,if_neg k1,if_pos k2,hf r' hr.1]
    rfl
  rw[if_neg k2] at h;by_cases k3:opF u 4 23≠0
  ·rw[if_pos k3] at h
   obtain⟨y,hy,rfl⟩:=b2e h;obtain⟨p,⟨hp,hp1⟩,hs,hf⟩:=hO q y r hy;refine⟨t::p,⟨by rw[hp];rfl,Nat.succ_le_succ (Nat.zero_le _)⟩,?_,fun r' hr=>?_⟩
   ·show(I9 (opF u 4 23)::C5 y).length<=(t::p).length
    exact Nat.succ_le_succ hs
   ·rw[List.cons_append,V6 (hu _),List.tail_cons,if_neg k1,if_neg k2,if_pos k3,hf r' hr.1]
    rfl
  rw[if_neg k3] at h;cases hq:Q1 ins (t::q) with
  | error e=>rw[hq] at h;cases h
  | ok w=>
   obtain⟨a,r1⟩:=w;rw[hq] at h;obtain⟨p,⟨hp,hp1⟩,hs,hf⟩:=hO _ a r1 hq;have hd:∀ r',a0l ins (p++r')=match Q1 ins (p++r') with
    | .error e=>.error e
    | .ok (a,r)=>if opF (C7 r) 22 1≠0 then unQ (fun b=>sx 7 (opF (C7 r) 22 1) 0 0 [] [a,b]) (Q1 ins r.tail) else .ok (a,r):=fun r'=>by
    have hn:C7 (p++r')=u:=by rw[b8o hp1 r' r1,<- hp];exact hu q
    rw[V6 hn,if_neg k1,if_neg k2,if_neg k3] <;> rfl
   by_cases k4:opF (C7 r1) 22 1≠0
   ·replace h:=(if_pos k4).symm.trans h
    obtain⟨y,hy,rfl⟩:=b2e h;cases r1 with
    | nil=>exact absurd (a5C 22 1) k4
    | cons v w=>
     obtain⟨p2,⟨hp2,hp21⟩,hs2,hf2⟩:=hO w y r hy;have hv:∀ w',C7 (v::w')=C7 (v::w):=fun _=>rfl
     have hb:∀ w',a6I (v::w'):=fun w' e=>by
      rw[hv,] at e;rw[e] at k4;exact k4 (by decide +kernel)
     refine⟨p++v::p2,⟨by rw[hp,hp2];simp,by rw[List.length_append];omega⟩,?_,fun r' hr=>?_⟩
     ·show(C5 a++I9 (opF (C7 (v::w)) 22 1)::C5 y).length<=_
      simp only[List.length_append,List.length_cons];simp only[ol] at hs hs2;omega
     ·rw[List.append_assoc,List.cons_append,hd,hf _ (hb _)]
      show(if opF (C7 (v::(p2++r'))) 22 1≠0 then unQ (fun b=>sx 7 (opF (C7 (v::(p2++r'))) 22 1) 0 0 [] [a,b]) (Q1 ins (v::(p2++r')).tail) else .ok (a,v::(p2++r')))=_;rw[hv,if_pos k4,List.tail_cons,hf2 r' hr.1];rfl
   ·replace h:=(if_neg k4).symm.trans h
    cases h;refine⟨p,⟨hp,hp1⟩,?_,fun r' hr=>?_⟩
    ·exact Nat.le_trans (c3U _) hs
    ·rw[hd,hf r' hr.1]
     exact if_neg (fun k=>k hr.2)
theorem b0L:∀ f,c1Q (S9 f)
 | 0=>fun _ _ _ _ _ _ h=>by cases h
 | f+1=>fun o s ho ts x r h=>by
  unfold S9 at h;by_cases k1:C7 ts=C1 o
  ·rw[if_pos k1] at h
   cases ts with
   | nil=>cases congrArg Tok.kind k1
   | cons t q=>
    rw[List.tail_cons] at h;cases hq:a0l (S9 f) q with
    | error e=>rw[hq] at h;cases h
    | ok w=>
     obtain⟨y,r1⟩:=w;rw[hq] at h;by_cases k2:C7 r1=C1 s
     ·replace h:=(if_pos k2).symm.trans h
      cases r1 with
      | nil=>cases congrArg Tok.kind k2
      | cons v w=>
       cases h;obtain⟨p,⟨hp,hp1⟩,hs,hf⟩:=a8r (b0L f) q _ _ hq;have hv:∀ w',C7 (v::w')=C1 s:=fun _=>k2
       refine⟨t::(p++[v]),⟨by rw[hp];simp,Nat.succ_le_succ (Nat.zero_le _)⟩,?_,fun r' _=>?_⟩
       ·simp only[List.length_cons,List.length_append,List.length_nil]
        simp only[wl] at hs ⊢;omega
       ·have hno:a6I (v::r')/\a9z (v::r'):=by
         unfold a6I a9z;rw[hv];rcases ho with rfl | rfl <;> exact⟨by decide +kernel,by decide +kernel⟩
        rw[show t::(p++[v])++r'=t::(p++v::r') by simp];unfold S9;rw[if_pos (show C7 (t::(p++v::r'))=C1 o from k1),List.tail_cons,hf _ hno];exact if_pos k2
     ·replace h:=(if_neg k2).symm.trans h
      cases h
  ·rw[if_neg k1] at h
   cases h
abbrev Er (rd:List Tok->a03):Prop:=∀ ts e,rd ts=.error e->e=100\/e=3
abbrev c1I (ins:B->B->List Tok->a03):Prop:=∀ o s,Er (ins o s)
theorem c0D {ins:B->B->List Tok->a03} (hi:c1I ins):Er (Q1 ins):=by
 intro ts e h;rw[M3 rfl] at h;repeat' split at h
 all_goals first | (cases h;done) | (cases h;rename_i h2;exact hi _ _ _ _ h2) | exact hi _ _ _ _ h | (cases h;exact .inl rfl)
theorem c2H {mk:Ex->Ex} {p:a03} {e:Int} (h:unQ mk p=.error e):p=.error e:=by
 cases p with
 | error f=>cases h;rfl
 | ok q=>cases h
theorem b3y {ins:B->B->List Tok->a03} (hi:c1I ins):Er (a0l ins):=by
 intro ts e h;have hO:=c0D hi;rw[V6 rfl] at h;repeat' split at h
 all_goals first | (cases h;done) | exact hO _ _ (c2H h) | (cases h;rename_i h2;exact hO _ _ h2) | (cases h;exact .inl rfl)
theorem b8p:∀ f,c1I (S9 f)
 | 0=>fun _ _ _ _ h=>by cases h;exact .inr rfl
 | f+1=>fun o s ts e h=>by
  unfold S9 at h;repeat' split at h
  all_goals first | (cases h;done) | (cases h;rename_i h2;exact b3y (b8p f) _ _ h2) | (cases h;exact .inl rfl)
theorem b5P {ts:List Tok} {x:Ex} {k:Nat} (h:Q0 ts=.ok (x,k)):((1<=k/\k<=ts.length)/\M0 x=true)/\(A9 x).length<=k/\Q0 (ts.take k)=.ok (x,k):=by
 unfold Q0 at h;cases hq:a8A ts with
 | error e=>rw[hq] at h;cases h
 | ok w=>
  obtain⟨y,r⟩:=w;rw[hq] at h;by_cases hm:M0 y=true
  ·replace h:=(if_pos hm).symm.trans h
   cases h;obtain⟨p,⟨hp,hp1⟩,hs,hf⟩:=a8r (b0L 32) ts _ _ hq;have hl:ts.length - r.length=p.length:=by rw[hp,List.length_append];omega
   have ht:ts.take (ts.length - r.length)=p:=by rw[hl,hp,List.take_left]
   have he:=hf [] ⟨by unfold a6I;decide +kernel,by unfold a9z;decide +kernel⟩;rw[List.append_nil] at he;refine⟨⟨⟨by omega,by omega⟩,hm⟩,by rw[hl];exact hs,?_⟩;rw[ht];unfold Q0 a8A;rw[he];show(if M0 _ then Except.ok (_,p.length - 0) else .error 3)=_;rw[if_pos hm,hl,Nat.sub_zero]
  ·replace h:=(if_neg hm).symm.trans h
   cases h
theorem b0G {ts:List Tok} {e:Int} (h:Q0 ts=.error e):e=100\/e=3:=by
 unfold Q0 at h;cases hq:a8A ts with
 | error f=>
  rw[hq] at h;cases h;exact b3y (b8p 32) ts _ hq
 | ok w=>
  obtain⟨y,r⟩:=w;rw[hq] at h;by_cases hm:M0 y=true
  ·replace h:=(if_pos hm).symm.trans h
   cases h
  ·replace h:=(if_neg hm).symm.trans h
   cases h;exact .inr rfl
theorem b0R {ts:List Tok}:Y3 ts<=ts.length:=by
 unfold Y3;cases h:Q0 ts with
 | error e=>exact Nat.zero_le _
 | ok w=>exact(b5P h).1.1.2
end
end Go.Xp
namespace Go.Ty
section
open Go.Lx
theorem a6P {t:Ty} (h:may t=true) (h4:(t.kind != 4)=false):(t.item=0/\name t.proto=true)\/(is t.item=true/\t.proto=[]):=by
 have h4':t.kind=4:=by simpa using h4
 unfold may at h;split at h
 ·cases h
 ·rw[h4'] at h
  rw[if_neg (by decide),if_neg (by decide)] at h;split at h
  ·rename_i h0;exact .inl ⟨by simpa using h0,h⟩
  ·simp at h;exact .inr h
end
end Go.Ty
