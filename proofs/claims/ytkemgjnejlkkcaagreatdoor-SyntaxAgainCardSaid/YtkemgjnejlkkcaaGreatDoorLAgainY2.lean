import Derived.Test.YtkemgjnejlkkcaaGreatDoorLAgainY1
import Derived.RangeFuncRecord
import Derived.Scope
import Derived.Lib.AppendStr
import Derived.Lib.UnsafeStr
import Derived.Lib.Builder
import Derived.Laws.Externs
import Derived.Recover
import Derived.Defers
import Derived.KernelRfl
import Derived.Lib.IndexMore
import Derived.Lib.Bytealg
import Derived.Lib.IndexBytes
import Derived.Lib.SplitLaws
import Derived.Lib.Join
import Derived.Lib.TrimByte
import Derived.Lib.Repeat
import Derived.Lib.ItoaNum
section
namespace Go.Eng
open Go Go.RowKit
section
variable {P:Program} {ops:Array Oper} {Q:Exit->Act->World->Prop} {n:Cx} {F:Fm} {h h':List Res} {m:View} {rest:List Oper}
variable {op:Op} {ty:TypeId} {pos:String} {after:Array Edge} {d:Nat} {v:Value}
theorem a0q {eff:List Nat} {t':Tl} {hs hp:List Res} {i:Nat} {s:Tr} {x y:Operand} {t e:TypeId} {sz by_ l cap k c l':Nat} {a b:Option Addr} {xs ys zs:List Value} {hq:Value->List Res}
 (ho:ops[i]?=some ⟨some d,.call ⟨.builtin .append,#[x,y],#[t,t]⟩,ty,pos,after,none⟩) (he:eff.contains i=true) (E:EL P t e sz by_) (ex:Ev n F x (.slice a l cap)) (ey:Ev n F y (.slice b k c))
 (rd:Rd m (hp++hs) b k c sz ys) (h1:∀ u ∈ ys,u.oneCell'=true) (hl:l+k=l') (hz:xs++ys=zs) (h63:l'<=9223372036854775807) (hbytes:l' * by_<=140737488355328)
 (u:∀ v',Upd hp (.row (.slice a l cap) e sz l xs) (.row v' e sz l' zs) (hq v')) (hd:d < n.num) (kk:∀ a' cap',SR P ops Q n eff t' hs s ((d,.slice a' l' cap')::F) (hq (.slice a' l' cap')) m) :
 SR P ops Q n eff t' hs (.op i s) F hp m:=by
 subst hl hz;exact SR.append ho he E ex ey rd h1 h63 hbytes u hd kk
structure WY (P:Program) (ops:Array Oper) (Q:Exit->Act->World->Prop) (n:Cx) (l:List Oper) (F:Fm) (h:List Res) (m:View):Prop where
 e:∀ a w,Fr n F a->St m h w->wpListIn (fen n.ro) 0 P ops (a1q Q) l a w
theorem b1O {id:Nat} {l:List Oper} {G:List (Option Nat)} (hG:b2F l=some G) (k:∀ ops:Array Oper,(∀ j t,G[j]?=some (some t)->a4d ops j=some t)->WY P ops Q n l F h m):WC P (.region id l.toArray false) Q n F h m:=.mk fun a w ha hs=>
 wpIn_region_lit ((k _ fun j t hj=>by
  have hG:=b0r hG;subst hG;unfold a4d;simp only[List.getElem?_map] at hj;simp only[List.getElem?_toArray];cases hl:l[j]? with
  | none=>simp[hl] at hj
  | some o=>simpa [hl] using hj).e a w ha hs)
theorem b6i {o:Oper} {a:Act} {w w':World} {K:Act->World->Prop} {v:Value} (hro:n.ro=none) (hr:(execOp a.eval o).run P w=.ok (.value v) w') (h:K (a.put o.dst v) w'):o.wpIn (fen n.ro) 0 P a w K Q:=by
 refine⟨fun _ _=>trivial,?_⟩;show o.uponIn (fen n.ro) 0 P a K Q ((o.semAt n.ro a.eval).run P w);rw[hro,Oper.semAt_none,hr];exact h
theorem WY.po (hro:n.ro=none) (hp:PO P ⟨some d,op,ty,pos,after,none⟩ n F h m v) (hn:d < n.num) (k:WY P ops Q n rest ((d,v)::F) h m) :
 WY P ops Q n (⟨some d,op,ty,pos,after,none⟩::rest) F h m:=.mk fun a w ha hs=>by
 unfold wpListIn;rw[if_pos (show Region.wanted _ _=true from rfl)];exact b6i hro (hp a w ha hs) (k.e _ _ (ha.put hn v) hs)
def noPan (Q:Exit->Act->World->Prop):Exit->Act->World->Prop
 | .panic _,_,_=>False
 | e,a,w=>Q e a w
end
end Go.Eng
namespace Go.Eng
open Go Go.RowKit
section
variable {P:Program} {ops:Array Oper} {Q:Exit->Act->World->Prop} {n:Cx} {F:Fm} {h h':List Res} {m:View} {rest:List Oper}
variable {op:Op} {ty:TypeId} {pos:String} {after:Array Edge} {d:Nat} {v:Value} {dst:Option Nat} {g:Option (Nat × Bool)}
end
end Go.Eng
namespace Go.Eng
open Go Go.RowKit
section
variable {P:Program} {ops:Array Oper} {Q:Exit->Act->World->Prop} {n:Cx} {F:Fm} {m:View}
variable {ty:TypeId} {pos:String} {after:Array Edge} {d:Nat} {eff:List Nat} {hs hp:List Res} {i:Nat} {s:Tr} {t':Tl}
end
end Go.Eng
namespace Go.Eng
open Go Go.RowKit
def RX (m:View) (R:Value->View->List Res->Prop) (X:Value->List Res->Prop) (e:Ending) (w:World):Prop:=
 RQ m R e w\/∃ v h',e=.panicked [{ v:=v,recovered:=false }]/\St m h' w/\X v h'
structure CX (P:Program) (f:FuncId) (args:List Value) (h:List Res) (m:View) (R:Value->View->List Res->Prop) (X:Value->List Res->Prop):Prop where
 enter:∀ as w,(callFunc f as).run P w=.ok (.enter f as) w
 calls:∀ w,St m h w->Calls P f args.toArray w (RX m R X)
section
variable {P:Program} {ops:Array Oper} {Q:Exit->Act->World->Prop} {n:Cx} {F:Fm} {h h':List Res} {m:View} {rest:List Oper}
variable {op:Op} {ty:TypeId} {pos:String} {after:Array Edge} {d:Nat} {v:Value} {dst:Option Nat} {g:Option (Nat × Bool)}
theorem CX.ofCT {f:FuncId} {args:List Value} {R:Value->View->List Res->Prop} {X:Value->List Res->Prop} (c:CT P f args h m R):CX P f args h m R X:=⟨c.enter,fun w hs=>Calls.mono (c.calls w hs) fun _ _ q=>.inl q⟩
theorem CX.mono {f:FuncId} {args:List Value} {R R':Value->View->List Res->Prop} {X X':Value->List Res->Prop} (c:CX P f args h m R X) (hr:∀ v m' h',R v m' h'->R' v m' h') (hx:∀ v h',X v h'->X' v h'):CX P f args h m R' X':=
 ⟨c.enter,fun w hs=>Calls.mono (c.calls w hs) fun _ _ q=>q.imp (fun ⟨v,m',h',e,a,b,r⟩=>⟨v,m',h',e,a,b,hr _ _ _ r⟩) fun ⟨v,h',e,s,x⟩=>⟨v,h',e,s,hx _ _ x⟩⟩
theorem CX.body {f:FuncId} {args:List Value} {R:Value->View->List Res->Prop} {X:Value->List Res->Prop} {fn:Func} {c:Code} {F0:Fm} {N:Nat} (he:∀ as w,(callFunc f as).run P w=.ok (.enter f as) w)
 (hf:P.funcs[f]?=some fn) (hb:fn.body=some c) (hN:fn.ntmps=N) (hl:args.length<=N) (hF:a7z 0 args=some F0) (k:WC P c (bodyPost P fn (RX m R X)) ⟨N,none,[]⟩ F0 h m):CX P f args h m R X:=by
 have hF:=a6e hF;subst hF hN;exact⟨he,fun w hs=>calls_of_wp hf hb (wpIn_wide.1 (wpIn_mono (k.e _ w (Fr.enter args fn.ntmps hl) hs) fun _ _ _ q=>a6n q))⟩
theorem toX {fn:Func} {ex:Exit} {m0:View} {R:Value->View->List Res->Prop} {X:Value->List Res->Prop} (hex:ex=.ret\/ex=.normal) (k:∀ a w,Fr n F a->St m h w->bodyPost P fn (RQ m0 R) ex a w) :
 ∀ a w,Fr n F a->St m h w->bodyPost P fn (RX m0 R X) ex a w:=fun a w ha hs=>by
 rcases hex with rfl | rfl
 ·obtain⟨h1,v,h2,h3⟩:=k a w ha hs
  exact⟨h1,v,h2,.inl h3⟩
 ·obtain⟨h1,v,h2,h3⟩:=k a w ha hs
  exact⟨h1,v,h2,.inl h3⟩
theorem a3J {fn:Func} {m0:View} {R:Value->View->List Res->Prop} {X:Value->List Res->Prop} (h':List Res) (hle:m0.le m) (hd:h'.Sublist h) (hX:X v h') (hds:n.ds=[]:=by rfl) :
 ∀ a w,Fr n F a->St m h w->bodyPost P fn (RX m0 R X) (.panic [{ v:=v,recovered:=false }]) a w:=fun _ _ ha hs=>
 ⟨ha.d.trans hds,.inr ⟨v,h',rfl,(hs.sub hd).back hle,hX⟩⟩
theorem WL.panic {x:Operand} {t:TypeId} {u:Value} (ex:Ev n F x (.iface t u)) (k:∀ a w,Fr n F a->St m h w->Q (.panic [{ v:=.iface t u,recovered:=false }]) a w) :
 WL P ops Q n (⟨dst,.panic x,ty,pos,after,none⟩::rest) F h m:=.mk fun a w ha hs=>by
 refine J9 rfl ?_;unfold Oper.wp;have hr:(execOp a.eval ⟨dst,.panic x,ty,pos,after,none⟩).run P w=.halt (.panic (.iface t u)) w:=by
  simp[execOp,ex a ha];rfl
 rw[hr];exact k a w ha hs
theorem A1 {f:Operand} {args:List Operand} {tys:Array TypeId} {vs first cap:List Value} {q:FuncId} {R:Value->List Res->Prop} {X:Value->List Res->Prop} (ef:Ev n F f (.func (.func q) first.toArray cap.toArray)) (ea:Evs n F args vs)
 (c:CX P q (first++vs++cap) h m (fun v _ h'=>R v h') X) (hd:d < n.num) (kx:∀ v h',X v h'->∀ a w,Fr n F a->St m h' w->Q (.panic [{ v:=v,recovered:=false }]) a w) (k:∀ v h',R v h'->WL P ops Q n rest ((d,v)::F) h' m) :
 WL P ops Q n (⟨some d,.call ⟨.value f,args.toArray,tys⟩,ty,pos,after,none⟩::rest) F h m:=.mk fun a w ha hs=>by
 refine J9 rfl ?_;unfold Oper.wp;rw[a2a ha ef ea c.enter];refine Calls.mono (c.calls w hs) ?_;rintro e w' (⟨v,m',h',rfl,hle,hst,hR⟩ | ⟨v,h',rfl,hst,hX⟩)
 ·exact k v h' hR _ _ (ha.put hd v) (hst.back hle)
 ·exact kx v h' hX a w' ha hst
theorem a3B {eff:List Nat} {t:Tl} {hs hp:List Res} {i:Nat} {s:Tr} {f:Operand} {args:List Operand} {tys:Array TypeId} {vs first cap:List Value} {q:FuncId} {R:Value->List Res->Prop} {X:List Res->Value->List Res->Prop}
 (ho:ops[i]?=some ⟨some d,.call ⟨.value f,args.toArray,tys⟩,ty,pos,after,none⟩) (he:eff.contains i=true) (ef:Ev n F f (.func (.func q) first.toArray cap.toArray)) (ea:Evs n F args vs)
 (c:∀ fr,CX P q (first++vs++cap) (hp++(fr++hs)) m (fun v _ h'=>∃ hp',h'=hp'++(fr++hs)/\R v hp') (X fr)) (hd:d < n.num)
 (kx:∀ fr v h',X fr v h'->∀ a w,Fr n [] a->St m h' w->Q (.panic [{ v:=v,recovered:=false }]) a w) (k:∀ v hp',R v hp'->SR P ops Q n eff t hs s ((d,v)::F) hp' m) :
 SR P ops Q n eff t hs (.op i s) F hp m:=⟨_,ho,fun x hx=>by cases hx;exact hd,by
 rw[he];refine⟨fun fr a w ha st=>⟨fun _=>?_,fun h=>by simp[Region.wanted] at h⟩⟩;rw[a2a ha ef ea (c fr).enter];have hpm:(fr++(hp++hs)).Perm (hp++(fr++hs)):=by
  rw[<- List.append_assoc,<- List.append_assoc];exact List.perm_append_comm.append_right hs
 refine Calls.mono ((c fr).calls w (st.perm hpm)) ?_;rintro e w' (⟨v,m',h',rfl,hle,hst,hp',rfl,hR⟩ | ⟨v,h',rfl,hst,hX⟩)
 ·refine .inl ⟨v,rfl,m,hp',View.le.refl m,(hst.back hle).perm ?_,nofun,(k v hp' hR).e⟩
  rw[<- List.append_assoc,<- List.append_assoc];exact List.perm_append_comm.append_right hs
 ·exact .inr ⟨_,rfl,fun a' ha'=>kx fr v h' hX a' w' ha' hst⟩⟩
theorem a0B {x:Operand} {t:TypeId} {fs:Array Field} (ht:P.underlying t=some (.struct fs)) (ex:Ev n F x v):PO P ⟨dst,.makeInterface t x,ty,pos,after,g⟩ n F h m (.iface t v):=.mk fun a w ha _=>by
 simp[execOp,ex a ha,Instr.makeInterface,run_underlying ht]
theorem a5G {x:Operand} {t s:TypeId} {fs:Array Field} (ht:P.underlying s=some (.struct fs)) (ex:Ev n F x (.iface s v)):PO P ⟨dst,.typeAssert x t s true,ty,pos,after,g⟩ n F h m (.tuple #[v,.bool true]):=.mk fun a w ha _=>by
 have h1:(Instr.typeAssert (.iface s v) t s true).run P w=.ok (.tuple #[v,.bool true]) w:=by
  simp[Instr.typeAssert,run_underlying ht]
 simp[execOp,ex a ha,h1]
theorem b1f {x y:Operand} {t t':TypeId} {ms:Array (String × TypeId)} (ht:P.underlying t=some (.interface ms)) (ex:Ev n F x .nilIface) (ey:y=.const .nilIface) :
 PO P ⟨dst,.binOp .neq t x y t',ty,pos,after,g⟩ n F h m (.bool false):=.mk fun b w ha _=>by
 subst ey;have h1:∀ d,(Op.equalIn (d+1) t .nilIface .nilIface).run P w=.ok true w:=fun d=>by
  simp[Op.equalIn,run_underlying ht]
 have h2:(Op.equal t .nilIface .nilIface).run P w=.ok true w:=h1 9999;have h3:(eqGuard .neq t x (.const .nilIface) .nilIface .nilIface).run P w=.ok () w:=by simp[eqGuard]
 have h4:b.eval (.const .nilIface)=.nilIface:=rfl;simp[execOp,ex b ha,h4,binOp,h2,h3]
theorem b0I {x y:Operand} {t t' s:TypeId} {ms:Array (String × TypeId)} {u:Value} (ht:P.underlying t=some (.interface ms)) (ex:Ev n F x (.iface s u)) (ey:y=.const .nilIface) :
 PO P ⟨dst,.binOp .neq t x y t',ty,pos,after,g⟩ n F h m (.bool true):=.mk fun b w ha _=>by
 subst ey;have h1:∀ d,(Op.equalIn (d+1) t (.iface s u) .nilIface).run P w=.ok false w:=fun d=>by
  simp[Op.equalIn,run_underlying ht]
 have h2:(Op.equal t (.iface s u) .nilIface).run P w=.ok false w:=h1 9999;have h3:(eqGuard .neq t x (.const .nilIface) (.iface s u) .nilIface).run P w=.ok () w:=by simp[eqGuard]
 have h4:b.eval (.const .nilIface)=.nilIface:=rfl;simp[execOp,ex b ha,h4,binOp,h2,h3]
end
end Go.Eng
namespace Go.Eng
open Go Go.RowKit
def b2O (q:FuncId) (cap:List Value):Deferred:={ target:=.fn (.func q) cap.toArray,args:=#[] }
section
variable {P:Program} {ops:Array Oper} {Q:Exit->Act->World->Prop} {n:Cx} {F:Fm} {h h':List Res} {m:View} {rest:List Oper}
variable {op:Op} {ty:TypeId} {pos:String} {after:Array Edge} {d:Nat} {v:Value} {dst:Option Nat} {g:Option (Nat × Bool)}
theorem WY.defer {f:Operand} {tys:Array TypeId} {q:FuncId} {cap:List Value} (hro:n.ro=none) (ef:Ev n F f (.func (.func q) #[] cap.toArray))
 (k:∀ a w,Fr { n with ds:=b2O q cap::n.ds } F a->St m h w->Q .normal a w) :
 WY P ops Q n [⟨none,.defer ⟨.value f,#[],tys⟩,ty,pos,after,none⟩] F h m:=.mk fun a w ha hs=>by
 unfold wpListIn;rw[if_pos (show Region.wanted _ _=true from rfl)];refine⟨fun _ _=>trivial,?_⟩;show Oper.uponIn (fen n.ro) 0 P _ a _ (a1q Q) ((Oper.semAt n.ro a.eval _).run P w);rw[hro,Oper.semAt_none];have hr:(execOp a.eval ⟨none,.defer ⟨.value f,#[],tys⟩,ty,pos,after,none⟩).run P w=.ok (.defer (b2O q cap)) w:=by
  simp[execOp,resolve,ef a ha,Deferred.ofValue,b2O]
 rw[hr];exact k _ w ⟨by show b2O q cap::a.defers=_;rw[ha.d],by simpa [Act.put] using ha.sz,fun t v ht=>by simpa [Act.put] using ha.get t v ht⟩ hs
theorem CT.bodyD {f:FuncId} {args:List Value} {R:Value->View->List Res->Prop} {fn:Func} {c:Code} {F0:Fm} {N:Nat} (he:∀ as w,(callFunc f as).run P w=.ok (.enter f as) w)
 (hf:P.funcs[f]?=some fn) (hb:fn.body=some c) (hN:fn.ntmps=N) (hl:args.length<=N) (hF:a7z 0 args=some F0) (k:WC P c (bodyPostD P fn (RQ m R)) ⟨N,none,[]⟩ F0 h m):CT P f args h m R:=by
 have hF:=a6e hF;subst hF hN;exact⟨he,fun w hs=>calls_of_wp_defers hf hb (wpIn_wide.1 (wpIn_mono (k.e _ w (Fr.enter args fn.ntmps hl) hs) fun _ _ _ q=>a6n q))⟩
def b2M (P:Program) (q:FuncId) (cap:List Value) (u:FrameMode) (m:View) (h h2:List Res):Prop:=
 ∀ w,St m h w->CallsD P q cap.toArray u w fun e u' w'=>(∃ v,e=.returned v)/\settle u'=.returning/\St m h2 w'
theorem b4z {fn:Func} {tmps:Array Value} {R:Ending->World->Prop} {q:FuncId} {cap:List Value} {u:FrameMode} {h2:List Res} {w:World} (he:∀ as w,(callFunc q as).run P w=.ok (.enter q as) w) (hu:u≠.run) (hd:b2M P q cap u m h h2) (hs:St m h w)
 (hr:∀ w',St m h2 w'->∃ v,(results fn tmps).run P w'=.ok v w'/\R (.returned v) w'):Leaves P fn tmps R [b2O q cap] u w:=by
 refine leaves_cons hu (f:=q) (args:=cap.toArray) (by simp[invoke,he]) ((hd w hs).mono ?_);rintro e u' w' ⟨⟨v,rfl⟩,hset,hs'⟩;show Leaves P fn tmps R [] (settle u') w';rw[hset];exact hr w' hs'
theorem c9e {fn:Func} {ex:Exit} {m0:View} {R:Value->View->List Res->Prop} {r r' r'':ResultVar} {v v' v'':Value} {q:FuncId} {cap:List Value} (hex:ex=.ret\/ex=.normal) (hds:n.ds=[b2O q cap]) (he:∀ as w,(callFunc q as).run P w=.ok (.enter q as) w)
 (hd:b2M P q cap .returning m h h) (hfn:fn.results=#[r,r',r'']) (x1:RV P n F h m r v) (x2:RV P n F h m r' v') (x3:RV P n F h m r'' v'') (hle:m0.le m) (hsub:h'.Sublist h) (hR:R (.tuple #[v,v',v'']) m h') :
 ∀ a w,Fr n F a->St m h w->bodyPostD P fn (RQ m0 R) ex a w:=fun a w ha hs=>by
 have key:Leaves P fn a.tmps (RQ m0 R) a.defers .returning w:=by
  rw[ha.d,hds];refine b4z he (by simp) hd hs fun w' hs'=>⟨.tuple #[v,v',v''],?_,_,m,h',rfl,hle,hs'.sub hsub,hR⟩
  have h1:=x1.e a w' ha hs';have h2:=x2.e a w' ha hs';have h3:=x3.e a w' ha hs';simp[a1t,hfn,h1,h2,h3]
 rcases hex with rfl | rfl <;> exact key
theorem d2p {fn:Func} {m0:View} {R:Value->View->List Res->Prop} {r r' r'':ResultVar} {v v' v'' u:Value} {q:FuncId} {cap:List Value} {h2:List Res} (hds:n.ds=[b2O q cap]) (he:∀ as w,(callFunc q as).run P w=.ok (.enter q as) w)
 (hd:b2M P q cap (.panicking [{ v:=u,recovered:=false }]) m h h2) (hfn:fn.results=#[r,r',r'']) (x1:RV P n F h2 m r v) (x2:RV P n F h2 m r' v') (x3:RV P n F h2 m r'' v'') (hle:m0.le m) (hsub:h'.Sublist h2) (hR:R (.tuple #[v,v',v'']) m h') :
 ∀ a w,Fr n F a->St m h w->bodyPostD P fn (RQ m0 R) (.panic [{ v:=u,recovered:=false }]) a w:=fun a w ha hs=>by
 show Leaves P fn a.tmps (RQ m0 R) a.defers (.panicking [{ v:=u,recovered:=false }]) w;rw[ha.d,hds];refine b4z he (by simp) hd hs fun w' hs'=>⟨.tuple #[v,v',v''],?_,_,m,h',rfl,hle,hs'.sub hsub,hR⟩
 have h1:=x1.e a w' ha hs';have h2:=x2.e a w' ha hs';have h3:=x3.e a w' ha hs';simp[a1t,hfn,h1,h2,h3]
def d0v (P:Program) (fn:Func) (m:View) (h2:List Res):Exit->Act->World->Prop:=fun e a w=>
 (e=.normal\/e=.ret)/\a.defers=[]/\(∃ v,(results fn a.tmps).run P w=.ok v w)/\St m h2 w
theorem b0u {fn:Func} {ex:Exit} {h2:List Res} (hex:ex=.ret\/ex=.normal) (hfn:fn.results=#[]) (hd:h2.Sublist h) (hds:n.ds=[]:=by rfl):∀ a w,Fr n F a->St m h w->d0v P fn m h2 ex a w:=fun a w ha hs=>
 ⟨hex.symm,ha.d.trans hds,⟨.tuple #[],by simp[results,hfn]⟩,hs.sub hd⟩
theorem c3E {fn:Func} {c0:Frame} {cs:List Frame} {u2:FrameMode} {h2:List Res} (hset:settle u2=.returning) {e:Exit} {a:Act} {w:World} (q:d0v P fn m h2 e a w) :
 bodyPostS P fn c0 cs (fun e u' w'=>(∃ v,e=.returned v)/\settle u'=.returning/\St m h2 w') e a ({ c0 with mode:=u2 }::cs) w:=by
 obtain⟨he,h1,⟨v,h3⟩,h4⟩:=q;rcases he with rfl | rfl <;> exact⟨h1,u2,rfl,v,h3,⟨v,rfl⟩,hset,h4⟩
theorem c2L {Q:Exit->Act->List Frame->World->Prop} {i:Nat} {l:List Nat} {o:Oper} {a:Act} {cs:List Frame} {w:World} (ho:ops[i]?=some o) (hw:Region.wanted o (yielded ops a.tmps)=true) (hr:(execOp a.eval o).run P w=.ok .recover w)
 (h1:∀ v cs',recoverD cs=some (v,cs')->wpOpsS P ops Q l (a.put o.dst v) cs' w) (h2:recoverD cs=none->wpOpsS P ops Q l (a.put o.dst .nilIface) cs w):wpOpsS P ops Q (i::l) a cs w:=by
 unfold wpOpsS;simp only[ho];rw[if_pos hw,hr];simp only;split
 ·rename_i v cs' e
  exact h1 v cs' e
 ·rename_i e
  exact h2 e
theorem b5J {Q:Exit->Act->List Frame->World->Prop} {i:Nat} {l:List Nat} {o:Oper} {a:Act} {cs:List Frame} {w:World} {v:Value} (ho:ops[i]?=some o) (hw:Region.wanted o (yielded ops a.tmps)=true) (hr:(execOp a.eval o).run P w=.ok (.value v) w)
 (h1:wpOpsS P ops Q l (a.put o.dst v) cs w):wpOpsS P ops Q (i::l) a cs w:=by
 unfold wpOpsS;simp only[ho];rw[if_pos hw,hr];exact h1
theorem b0l {q:FuncId} {cap:List Value} {fn:Func} {l:List Oper} {id dr d2:Nat} {t1 t2:TypeId} {p1 p2:String} {a1 a2:Array Edge} {y:Code} {u u2:FrameMode} {r:Value} {N:Nat} {F0:Fm} {h2:List Res} (hf:P.funcs[q]?=some fn) (hb:fn.body=some (.seq (.region id l.toArray false) y))
 (hl0:l=[⟨some dr,.call ⟨.builtin .recover,#[],#[]⟩,t1,p1,a1,none⟩,⟨some d2,.assign (.tmp dr),t2,p2,a2,none⟩]) (hN:fn.ntmps=N) (hl:cap.length<=N) (hF:a7z 0 cap=some F0) (hdr:dr < N) (hd2:d2 < N)
 (hrec:∀ (c0:Frame) cs,c0.mode=u->(recoverD (c0::cs)=some (r,{ c0 with mode:=u2 }::cs))\/(recoverD (c0::cs)=none/\r=.nilIface/\u2=u)) (hset:settle u2=.returning)
 (k:WC P y (d0v P fn m h2) ⟨N,none,[]⟩ ((d2,r)::(dr,r)::F0) h m):b2M P q cap u m h h2:=fun w hs=>by
 have hF:=a6e hF;subst hF hN hl0;refine callsD_of_wpS hf hb fun c0 cs hu=>wpS_seq (wpS_region ?_)
 have fr0:=Fr.enter cap fn.ntmps hl;have fr1:=fr0.put hdr r;have fr2:=fr1.put hd2 r;have fin:∀ cs',cs'={ c0 with mode:=u2 }::cs->y.wpS P (bodyPostS P fn c0 cs (fun e u' w'=>(∃ v,e=.returned v)/\settle u'=.returning/\St m h2 w')) _ cs' w:=fun cs' e=>by
  subst e;exact wpS_of_wp (wp_mono (wpIn_wide.1 (k.e _ w fr2 hs)) fun e a' w' q=>c3E hset (a6n q))
 have hx:∀ (a:Act),(execOp a.eval ⟨some dr,.call ⟨.builtin .recover,#[],#[]⟩,t1,p1,a1,none⟩).run P w=.ok .recover w:=fun a=>by
  simp[execOp,resolve,invoke,builtin]
 have hy:∀ (a:Act),a.tmps[dr]?=some r->(execOp a.eval ⟨some d2,.assign (.tmp dr),t2,p2,a2,none⟩).run P w=.ok (.value r) w:=fun a h=>by
  simp[execOp,Act.eval,h]
 have hget:=fr1.get dr r (by simp[look]);show wpOpsS P _ _ [0,1] _ (c0::cs) w;refine c2L rfl rfl (hx _) (fun v cs' e=>?_) (fun e=>?_)
 ·rcases hrec c0 cs hu with h1 | ⟨h1,_⟩
  ·rw[h1] at e
   cases e;exact b5J rfl rfl (hy _ hget) (fin _ rfl)
  ·rw[h1] at e
   cases e
 ·rcases hrec c0 cs hu with h1 | ⟨_,rfl,rfl⟩
  ·rw[h1] at e
   cases e
  ·exact b5J rfl rfl (hy _ hget) (fin _ (by rw[<- hu]))
theorem b6k {u:FrameMode} (hu:u=.returning) (c0:Frame) (cs:List Frame) (h:c0.mode=u):(recoverD (c0::cs)=some (Value.nilIface,{ c0 with mode:=u }::cs))\/(recoverD (c0::cs)=none/\Value.nilIface=Value.nilIface/\u=u):=by
 subst hu;refine .inr ⟨?_,rfl,rfl⟩;simp only[recoverD,h]
theorem b7u {v:Value} (c0:Frame) (cs:List Frame) (h:c0.mode=.panicking [{ v:=v,recovered:=false }]):(recoverD (c0::cs)=some (v,{ c0 with mode:=.panicking [{ v:=v,recovered:=true }] }::cs))\/(recoverD (c0::cs)=none/\v=Value.nilIface/\(.panicking [{ v:=v,recovered:=true }]:FrameMode)=.panicking [{ v:=v,recovered:=false }]):=by
 refine .inl ?_;simp only[recoverD,h]
theorem b0G (v:Value):settle (.panicking [{ v:=v,recovered:=true }])=.returning:=rfl
end
end Go.Eng
namespace Go.Eng
open Go Go.RowKit
section
variable {P:Program} {ops:Array Oper} {Q:Exit->Act->World->Prop} {n:Cx} {F:Fm} {m:View}
variable {ty:TypeId} {pos:String} {after:Array Edge} {d:Nat}
theorem c4c {α:Type} {enc:α->List Value} {e sz:Nat} {xs:List α} {eff:List Nat} {t:Tl} {hs hp hp0:List Res} {r:Res} {i:Nat} {s:Tr} {f:Operand} {args:List Operand} {tys:Array TypeId} {vs first cap:List Value} {q:FuncId}
 (ho:ops[i]?=some ⟨some d,.call ⟨.value f,args.toArray,tys⟩,ty,pos,after,none⟩) (he:eff.contains i=true) (ef:Ev n F f (.func (.func q) first.toArray cap.toArray)) (ea:Evs n F args vs) (hdel:Del hp r hp0)
 (c:∀ fr,CT P q (first++vs++cap) (r::(fr++(hp0++hs))) m (fun v _ h'=>c1e enc e sz (fr++(hp0++hs)) xs v h')) (hd:d < n.num)
 (k:∀ a c,SR P ops Q n eff t hs s ((d,.slice a xs.length c)::F) (.row (.slice a xs.length c) e sz xs.length (fl enc xs)::hp0) m):SR P ops Q n eff t hs (.op i s) F hp m:=⟨_,ho,fun x hx=>by cases hx;exact hd,by
 rw[he];refine⟨fun fr a w ha st=>⟨fun _=>?_,fun h=>by simp[Region.wanted] at h⟩⟩;rw[a2a ha ef ea (c fr).enter];have hpm:(fr++(hp++hs)).Perm (r::(fr++(hp0++hs))):=
  ((hdel.perm.append_right hs).append_left fr).trans List.perm_middle
 refine Calls.mono ((c fr).calls w (st.perm hpm)) ?_;rintro e w' ⟨v',m',h',rfl,hle,hst,a1,c1,k1,rfl,rfl,rfl⟩;exact .inl ⟨_,rfl,m,_,View.le.refl m,(hst.perm (List.perm_middle (l₁:=fr) (l₂:=hp0++hs)).symm).back hle,nofun,(k a1 c1).e⟩⟩
theorem J1 {α:Type} {enc:α->List Value} {e sz:Nat} {xs:List α} {eff:List Nat} {t:Tl} {hs hp:List Res} {i:Nat} {s:Tr} {f:Operand} {args:List Operand} {tys:Array TypeId} {vs first cap:List Value} {q:FuncId}
 (ho:ops[i]?=some ⟨some d,.call ⟨.value f,args.toArray,tys⟩,ty,pos,after,none⟩) (he:eff.contains i=true) (ef:Ev n F f (.func (.func q) first.toArray cap.toArray)) (ea:Evs n F args vs)
 (c:∀ fr,CT P q (first++vs++cap) (fr++(hp++hs)) m (fun v _ h'=>c1e enc e sz (fr++(hp++hs)) xs v h')) (hd:d < n.num)
 (k:∀ a c,SR P ops Q n eff t hs s ((d,.slice a xs.length c)::F) (.row (.slice a xs.length c) e sz xs.length (fl enc xs)::hp) m):SR P ops Q n eff t hs (.op i s) F hp m:=⟨_,ho,fun x hx=>by cases hx;exact hd,by
 rw[he];refine⟨fun fr a w ha st=>⟨fun _=>?_,fun h=>by simp[Region.wanted] at h⟩⟩;rw[a2a ha ef ea (c fr).enter];refine Calls.mono ((c fr).calls w st) ?_;rintro e w' ⟨v',m',h',rfl,hle,hst,a1,c1,k1,rfl,rfl,rfl⟩;exact .inl ⟨_,rfl,m,_,View.le.refl m,(hst.perm (List.perm_middle (l₁:=fr) (l₂:=hp++hs)).symm).back hle,nofun,(k a1 c1).e⟩⟩
end
end Go.Eng
namespace Go.Eng
open Go Go.RowKit
section
variable {P:Program} {ops:Array Oper} {Q:Exit->Act->World->Prop} {n:Cx} {F:Fm} {h hp hs:List Res} {m:View}
variable {ty:TypeId} {pos:String} {after:Array Edge} {d:Nat} {dst:Option Nat} {g:Option (Nat × Bool)}
theorem b8e {x i:Operand} {t e len:Nat} {u:TypeDesc} {k:IntKind} {j:Int} {q:Nat} {cs:List Value} {v:Value} (ht:P.underlying t=some (.array len e)) (he:P.underlying e=some u) (hp:P9 u=true)
 (hsz:(P.info? e).map (·.size)=some 1) (ex:Ev n F x (.agg cs.toArray)) (ei:Ev n F i (.int k j)) (hj:j=(q:Int)) (hq:q < len) (hv:cs[q]?=some v) :
 PO P ⟨dst,.index t x i,ty,pos,after,g⟩ n F h m v:=.mk fun b w ha _=>by
 subst hj;have e1:¬ len<=q:=by omega
 have hs:(sizeOf e).run P w=.ok 1 w:=by
  cases hi:P.info? e with
  | none=>rw[hi] at hsz;cases hsz
  | some y=>rw[hi] at hsz;simp at hsz;simp[sizeOf,typeInfo,hi,hsz]
 simp[execOp,ex b ha,ei b ha,Instr.index,asIntOf,run_underlying ht,part,P2 w he hp,hs,hv,e1]
theorem a4j {eff tt:List Nat} {tl:List Oper} {H:List Res} (htl:tt.filterMap (ops[·]?)=tl) (hH:(hp++hs).Perm H) (k:WL P ops Q n tl F H m):SR P ops Q n eff ⟨tt,[]⟩ hs .nil F hp m:=
 ⟨by subst htl;exact WL.perm hH k⟩
theorem a1j {α:Type} (bl l t:List α):(bl++(l++t)).Perm (l++(bl++t)):=by
 rw[<- List.append_assoc,<- List.append_assoc];exact List.perm_append_comm.append_right t
end
end Go.Eng
namespace Go.Eng
open Go Go.RowKit
section
variable {H:Type} {enc:TypeId × Value->H} {P:Program} {W:World} {held:Bool} {a06:Nat} {t:TypeId} {cs:List Value} {x:DataW H × List MemPlace}
end
end Go.Eng
end
namespace Go.Eng
section
open Go Go.RowKit
section
variable {P:Program} {Q:Exit->Act->World->Prop} {n:Cx} {y:Code}
def KK (P:Program) (y:Code) (Q:Exit->Act->World->Prop) (ro:Option Nat) (a:Act) (w:World):Prop:=y.wpIn (fen ro) 0 P (a1q Q) a w
theorem KKh:∀ ds F h m,WC P y Q { n with ds:=ds } F h m->∀ a w,Fr { n with ds:=ds } F a->St m h w->KK P y Q n.ro a w:=fun _ _ _ _ k=>k.e
end
section
variable {P:Program} {ops:Array Oper} {Q:Exit->Act->World->Prop} {n:Cx} {F:Fm} {h h':List Res} {m:View} {rest:List Oper}
variable {op:Op} {ty:TypeId} {pos:String} {after:Array Edge} {d:Nat} {v:Value} {dst:Option Nat} {g:Option (Nat × Bool)}
theorem Et {t:Nat} (h:look F t=some v:=by exact rfl):Ev n F (.tmp t) v:=Ev.tmp h
theorem Eg {t:Nat} {c:Bool} (hc:c=true) (h:look F t=some (gv c v):=by exact rfl):Ev n F (.tmp t) v:=a0j h hc
theorem E0:Evs n F [] []:=Evs.nil
theorem E1 {x:Operand} (a:Ev n F x v):Evs n F [x] [v]:=.cons a .nil
theorem E2 {x x2:Operand} {v2:Value} (a:Ev n F x v) (a2:Ev n F x2 v2):Evs n F [x,x2] [v,v2]:=.cons a (.cons a2 .nil)
theorem E3 {x x2 x3:Operand} {v2 v3:Value} (a:Ev n F x v) (a2:Ev n F x2 v2) (a3:Ev n F x3 v3):Evs n F [x,x2,x3] [v,v2,v3]:=.cons a (.cons a2 (.cons a3 .nil))
theorem E4 {x x2 x3 x4:Operand} {v2 v3 v4:Value} (a:Ev n F x v) (a2:Ev n F x2 v2) (a3:Ev n F x3 v3) (a4:Ev n F x4 v4):Evs n F [x,x2,x3,x4] [v,v2,v3,v4]:=.cons a (.cons a2 (.cons a3 (.cons a4 .nil)))
theorem Me {α:Type} {a:α} {l:List α} (h:List.Mem a l:=by repeat (first | exact b6v _ | apply b7h)):List.Mem a l:=h
theorem Sb {α:Type} {l r:List α} (h:l.Sublist r:=by repeat (first | exact d2q _ | exact d2x _ _ | exact d36 _ _ | refine d1L _ ?_ | apply d29 | refine d1Y _ ?_)):l.Sublist r:=h
theorem Up {r r':Res} {l l':List Res} (h:Upd l r r' l':=by repeat (first | exact Upd.here | apply Upd.next)):Upd l r r' l':=h
theorem De {r:Res} {l l':List Res} (h:Del l r l':=by repeat (first | exact Del.here | apply Del.next)):Del l r l':=h
theorem Rr {a:Option Addr} {k c sz:Nat} {xs:List Value} (hr:Rd m h a k c sz xs:=by first | assumption | exact Rd.ofSl (by assumption) | exact Rd.ofPt rfl (by decide) Me | exact Rd.mono (by assumption) (View.le.refl _) Sb | exact Rd.inRow Me (by assumption) (by assumption) (by assumption)):Rd m h a k c sz xs:=hr
theorem On {ys:List Value} (h:∀ u ∈ ys,u.oneCell'=true:=by first | exact b7M rfl | exact b9Y (fun _=>rfl) _):∀ u ∈ ys,u.oneCell'=true:=h
theorem xG (hp:PO P ⟨some d,op,ty,pos,after,none⟩ n F h m v) (k:WL P ops Q n rest ((d,v)::F) h m) (hn:Nat.ble (d+1) n.num=true:=by exact rfl) :
 WL P ops Q n (⟨some d,op,ty,pos,after,none⟩::rest) F h m:=d2c hp (leB hn) k
theorem xM {t:Nat} (k:WL P ops Q n rest ((d,v)::F) h m) (h1:look F t=some v:=by exact rfl) (hn:Nat.ble (d+1) n.num=true:=by exact rfl) :
 WL P ops Q n (⟨some d,.move (.tmp t),ty,pos,after,none⟩::rest) F h m:=xG (PO.move (Ev.tmp h1)) k hn
theorem xK (k:WL P ops Q n rest ((d,v)::F) h m) (hn:Nat.ble (d+1) n.num=true:=by exact rfl) :
 WL P ops Q n (⟨some d,.move (.const v),ty,pos,after,none⟩::rest) F h m:=xG (PO.move Ev.const) k hn
theorem xA {t:Nat} (k:WL P ops Q n rest ((d,v)::F) h m) (h1:look F t=some v:=by exact rfl) (hn:Nat.ble (d+1) n.num=true:=by exact rfl) :
 WL P ops Q n (⟨some d,.assign (.tmp t),ty,pos,after,none⟩::rest) F h m:=xG (PO.assign (Ev.tmp h1)) k hn
theorem xC (k:WL P ops Q n rest ((d,v)::F) h m) (hn:Nat.ble (d+1) n.num=true:=by exact rfl) :
 WL P ops Q n (⟨some d,.assign (.const v),ty,pos,after,none⟩::rest) F h m:=xG (PO.assign Ev.const) k hn
theorem xE {t i:Nat} {vs:Array Value} (k:WL P ops Q n rest ((d,v)::F) h m) (h1:look F t=some (.tuple vs):=by exact rfl) (h2:vs[i]?=some v:=by exact rfl) (hn:Nat.ble (d+1) n.num=true:=by exact rfl) :
 WL P ops Q n (⟨some d,.extract (.tmp t) i,ty,pos,after,none⟩::rest) F h m:=xG (PO.extract (Ev.tmp h1) h2) k hn
theorem xP {t u:Nat} {c b:Bool} (k:WL P ops Q n rest ((d,.bool (c&&b))::F) h m) (h1:look F t=some (.bool c):=by exact rfl) (h2:look F u=some (gv c (.bool b)):=by exact rfl) (hn:Nat.ble (d+1) n.num=true:=by exact rfl) :
 WL P ops Q n (⟨some d,.pick (.tmp t) (.tmp u) (.const (.bool false)),ty,pos,after,none⟩::rest) F h m:=xG (a7R h1 h2) k hn
theorem xQ {t u:Nat} {c b:Bool} (k:WL P ops Q n rest ((d,.bool (c||b))::F) h m) (h1:look F t=some (.bool c):=by exact rfl) (h2:look F u=some (gv (!c) (.bool b)):=by exact rfl) (hn:Nat.ble (d+1) n.num=true:=by exact rfl) :
 WL P ops Q n (⟨some d,.pick (.tmp t) (.const (.bool true)) (.tmp u),ty,pos,after,none⟩::rest) F h m:=xG (a9D h1 h2) k hn
theorem xF {x:Operand} {t i:Nat} {fs:Array Field} {f:Field} {b off:Nat} (ht:P.underlying t=some (.struct fs)) (k:WL P ops Q n rest ((d,.pointer (some ⟨b,off+f.offset,none⟩))::F) h m) (hf:fs[i]?=some f:=by exact rfl) (hz:P.cellsOf f.type≠0:=by exact Nat.ne_of_beq_eq_false rfl)
 (ex:Ev n F x (.pointer (some ⟨b,off,none⟩)):=by exact Ev.tmp rfl) (hn:Nat.ble (d+1) n.num=true:=by exact rfl):WL P ops Q n (⟨some d,.fieldAddr t x i,ty,pos,after,none⟩::rest) F h m:=xG (PO.fieldAddr ht hf hz ex) k hn
theorem pL {x:Operand} {t:TypeId} {u:TypeDesc} {b off:Nat} {cs:List Value} {e:TypeId} {fz:Nat × Nat} (ht:P.underlying t=some u) (hp:P9 u=true:=by exact rfl)
 (ex:Ev n F x (.pointer (some ⟨b,off,none⟩)):=by exact Ev.tmp rfl) (hm:List.Mem (Res.pt b (.cells cs.toArray e fz)) h:=by repeat (first | exact b6v _ | apply b7h)) (hv:cs[off]?=some v:=by exact rfl):PO P ⟨dst,.load t x,ty,pos,after,g⟩ n F h m v:=E6 ht hp ex hm hv
theorem pA {x:Operand} {t:TypeId} {u:TypeDesc} {b off:Nat} {cs:List Value} {e:TypeId} {fz:Nat × Nat} {vs:List Value} (ht:P.underlying t=some u) (hp:P9 u=false:=by exact rfl)
 (hq:(P.info? t).isSome=true:=by exact rfl) (ex:Ev n F x (.pointer (some ⟨b,off,none⟩)):=by exact Ev.tmp rfl) (hm:List.Mem (Res.pt b (.cells cs.toArray e fz)) h:=by repeat (first | exact b6v _ | apply b7h)) (hv:seg cs off (P.cellsOf t)=some vs:=by exact rfl) :
 PO P ⟨dst,.load t x,ty,pos,after,g⟩ n F h m (.agg vs.toArray):=U2 ht hp hq ex hm hv
theorem pF {x:Operand} {t i:Nat} {fs:Array Field} {f:Field} {b off:Nat} (ht:P.underlying t=some (.struct fs)) (hf:fs[i]?=some f:=by exact rfl) (hz:P.cellsOf f.type≠0:=by exact Nat.ne_of_beq_eq_false rfl)
 (ex:Ev n F x (.pointer (some ⟨b,off,none⟩)):=by exact Ev.tmp rfl):PO P ⟨dst,.fieldAddr t x i,ty,pos,after,g⟩ n F h m (.pointer (some ⟨b,off+f.offset,none⟩)):=PO.fieldAddr ht hf hz ex
theorem xS {x y:Operand} {t:TypeId} {b off:Nat} {cs cs' vs:List Value} {e:TypeId} (k:WL P ops Q n rest F h' m) (ex:Ev n F x (.pointer (some ⟨b,off,none⟩)):=by exact Ev.tmp rfl) (ey:Ev n F y v:=by first | exact Ev.tmp rfl | exact Ev.const)
 (hvs:Y5 v=some vs:=by exact rfl) (hq:(P.info? t).map (·.size)=some vs.length:=by exact rfl) (h1:vs.all (·.oneCell')=true:=by exact rfl) (h0:vs.isEmpty=false:=by exact rfl) 
 (u:Upd h (.pt b (.cells cs.toArray e (0,0))) (.pt b (.cells cs'.toArray e (0,0))) h':=by repeat (first | exact Upd.here | apply Upd.next)) (hc:a2E cs off vs=some cs':=by exact rfl) :
 WL P ops Q n (⟨none,.store t x y,ty,pos,after,none⟩::rest) F h m:=WL.store hq ex ey hvs h1 h0 hc u k
theorem xW {t:TypeId} {z:Value} {zs:List Value} (k:∀ b,WL P ops Q n rest ((d,.pointer (some ⟨b,0,none⟩))::F) (.pt b (.cells zs.toArray t (0,0))::h) m) (hz:(P.info? t).bind (·.zero)=some z:=by exact rfl) (hzs:Y5 z=some zs:=by exact rfl) (hn:Nat.ble (d+1) n.num=true:=by exact rfl) :
 WL P ops Q n (⟨some d,.alloc t,ty,pos,after,none⟩::rest) F h m:=WL.alloc hz hzs (leB hn) k
theorem xX {x:Operand} {t:TypeId} {zs:List Value} (k:∀ b,WL P ops Q n rest ((d,.pointer (some ⟨b,0,none⟩))::F) (.pt b (.cells zs.toArray t (0,0))::h) m) (ex:Ev n F x v:=by exact Ev.tmp rfl) (hzs:Y5 v=some zs:=by exact rfl) (hn:Nat.ble (d+1) n.num=true:=by exact rfl) :
 WL P ops Q n (⟨some d,.box t x,ty,pos,after,none⟩::rest) F h m:=WL.box ex hzs (leB hn) k
theorem xD {x y:Operand} {t e:TypeId} {sz by_ l cap k c l':Nat} {a b:Option Addr} {xs ys zs:List Value} {hq:Value->List Res} (E:EL P t e sz by_) (ex:Ev n F x (.slice a l cap)) (ey:Ev n F y (.slice b k c)) (hl:l+k=l') (hz:xs++ys=zs) (kk:∀ a' cap',WL P ops Q n rest ((d,.slice a' l' cap')::F) (hq (.slice a' l' cap')) m)
 (u:∀ v',Upd h (.row (.slice a l cap) e sz l xs) (.row v' e sz l' zs) (hq v'):=by intro v';repeat (first | exact Upd.here | apply Upd.next)) (rd:Rd m h b k c sz ys:=by first | assumption | exact Rd.ofSl (by assumption) | exact Rd.ofPt rfl (by decide) Me | exact Rd.mono (by assumption) (View.le.refl _) Sb | exact Rd.inRow Me (by assumption) (by assumption) (by assumption))
 (h1:∀ u ∈ ys,u.oneCell'=true:=by first | exact b7M rfl | exact b9Y (fun _=>rfl) _) (h63:l'<=9223372036854775807:=by omega) (hbytes:l' * by_<=140737488355328:=by omega) (hn:Nat.ble (d+1) n.num=true:=by exact rfl) :
 WL P ops Q n (⟨some d,.call ⟨.builtin .append,#[x,y],#[t,t]⟩,ty,pos,after,none⟩::rest) F h m:=b8E E ex ey rd h1 hl hz h63 hbytes u (leB hn) kk
theorem xY {t e k:Nat} {sz by_:Nat} {ps:List (Nat × Operand)} {vs:List (Nat × Value)} {z:Value} {zs cs:List Value} (E:EL P t e sz by_) (ev:EvP n F ps vs)
 (kk:∀ b,WL P ops Q n rest ((d,.slice (some ⟨b,0,none⟩) k k)::F) (.pt b (.cells cs.toArray e (0,0))::h) m) (hz:(P.info? e).bind (·.zero)=some z:=by exact rfl)
 (hzs:a9I z k=some zs:=by exact rfl) (hf:a5J (fun i=>some (i * sz,sz)) zs vs=some cs:=by exact rfl) (hk:k * sz<=16777216:=by decide) (h0:Nat.beq (k * sz) 0=false:=by exact rfl) (hn:Nat.ble (d+1) n.num=true:=by exact rfl) :
 WL P ops Q n (⟨some d,.buildSlice t k ps.toArray,ty,pos,after,none⟩::rest) F h m:=WL.buildSlice E hz ev hzs hf hk h0 (leB hn) kk
theorem xf {args:List Operand} {tys:Array TypeId} {vs:List Value} {q:FuncId} (ea:Evs n F args vs) (c:CT P q vs h m (A9 h v)) (k:WL P ops Q n rest ((d,v)::F) h m) (hn:Nat.ble (d+1) n.num=true:=by exact rfl) :
 WL P ops Q n (⟨some d,.call ⟨.value (.func q),args.toArray,tys⟩,ty,pos,after,none⟩::rest) F h m:=Q9 (first:=[]) (cap:=[]) Ev.func ea (by simpa using c) (leB hn) k
theorem xg {args:List Operand} {tys:Array TypeId} {vs:List Value} {q:FuncId} {R:Value->List Res->Prop} (ea:Evs n F args vs) (c:CT P q vs h m (fun v _ h'=>R v h')) (k:∀ v h',R v h'->WL P ops Q n rest ((d,v)::F) h' m) (hn:Nat.ble (d+1) n.num=true:=by exact rfl) :
 WL P ops Q n (⟨some d,.call ⟨.value (.func q),args.toArray,tys⟩,ty,pos,after,none⟩::rest) F h m:=H5 (first:=[]) (cap:=[]) Ev.func ea (by simpa using c) (leB hn) k
theorem zG {gd:Nat × Bool} {c:Bool} (hp:c=true->PO P ⟨some d,op,ty,pos,after,some gd⟩ n F h m v) (k:WL P ops Q n rest ((d,gv c v)::F) h m)
 (hg:GU ops n F gd c:=by first | exact GU.t rfl rfl | exact GU.f rfl rfl | exact a1J rfl rfl | exact a6u rfl rfl) (hn:Nat.ble (d+1) n.num=true:=by exact rfl) :
 WL P ops Q n (⟨some d,op,ty,pos,after,some gd⟩::rest) F h m:=H9 hg hp (leB hn) k
theorem zM {gd:Nat × Bool} {c:Bool} {t:Nat} (k:WL P ops Q n rest ((d,gv c v)::F) h m) (h1:look F t=some v:=by exact rfl)
 (hg:GU ops n F gd c:=by first | exact GU.t rfl rfl | exact GU.f rfl rfl | exact a1J rfl rfl | exact a6u rfl rfl) (hn:Nat.ble (d+1) n.num=true:=by exact rfl) :
 WL P ops Q n (⟨some d,.move (.tmp t),ty,pos,after,some gd⟩::rest) F h m:=H9 hg (fun _=>PO.move (Ev.tmp h1)) (leB hn) k
theorem zV {gd:Nat × Bool} {c:Bool} {t:Nat} (k:WL P ops Q n rest ((d,gv c v)::F) h m)
 (hg:GU ops n F gd c:=by first | exact GU.t rfl rfl | exact GU.f rfl rfl | exact a1J rfl rfl | exact a6u rfl rfl) (h1:look F t=some (gv c v):=by exact rfl) (hn:Nat.ble (d+1) n.num=true:=by exact rfl) :
 WL P ops Q n (⟨some d,.move (.tmp t),ty,pos,after,some gd⟩::rest) F h m:=H9 hg (fun hc=>PO.move (a0j h1 hc)) (leB hn) k
theorem zU {gd:Nat × Bool} (k:WL P ops Q n (⟨dst,op,ty,pos,after,none⟩::rest) F h m)
 (hg:GU ops n F gd true:=by first | exact GU.t rfl rfl | exact GU.f rfl rfl) :
 WL P ops Q n (⟨dst,op,ty,pos,after,some gd⟩::rest) F h m:=c3V hg rfl k
theorem kp (ts:List Nat) {F':Fm} {K:Act->World->Prop} {y:Code} (k:WC P y Q n F' h m) (hk:a6d F ts=some F':=by exact rfl) (hK:∀ ds F h m,WC P y Q { n with ds:=ds } F h m->∀ a w,Fr { n with ds:=ds } F a->St m h w->K a w:=by first | exact KKh | assumption):∀ a w,Fr n F a->St m h w->K a w:=b5O hk (toK hK k)
theorem wn (ts:List Nat) {F':Fm} {K:Act->World->Prop} {y:Code} {Q':Exit->Act->World->Prop} (k:WC P y Q n F' h m) (hq:Q' .normal=K:=by exact rfl) (hk:a6d F ts=some F':=by exact rfl) (hK:∀ ds F h m,WC P y Q { n with ds:=ds } F h m->∀ a w,Fr { n with ds:=ds } F a->St m h w->K a w:=by first | exact KKh | assumption) :
 WL P ops Q' n [] F h m:=WL.nil (hq ▸ b5O hk (toK hK k))
theorem wc {t:Nat} {x y:Code} {b:Bool} (kt:b=true->WC P x Q n F h m) (kf:b=false->WC P y Q n F h m) (h1:look F t=some (.bool b):=by exact rfl):WC P (.cond (.tmp t) x y) Q n F h m:=WC.cond (Ev.tmp h1) kt kf
theorem wR (hh:List Res) {fn:Func} {m0:View} {R:Value->View->List Res->Prop} {r:ResultVar} (hR:R v m hh) (hfn:fn.results=#[r]:=by exact rfl) (h1:RV P n F h m r v:=by exact RV.tmp rfl) (hle:m0.le m:=by exact View.le.refl _) (hd:hh.Sublist h:=by repeat (first | exact d2q _ | exact d2x _ _ | exact d36 _ _ | refine d1L _ ?_ | apply d29 | refine d1Y _ ?_)) (hds:n.ds=[]:=by exact rfl) :
 ∀ a w,Fr n F a->St m h w->bodyPost P fn (RQ m0 R) .ret a w:=b1K (.inl rfl) hfn h1 hle hd hR hds
theorem wV {l:List Oper} {b b':Bool} (e:b=b') (k:WL P ops Q n l ((d,.bool b')::F) h m):WL P ops Q n l ((d,.bool b)::F) h m:=e ▸ k
theorem sk {x y:Code} (k:∀ K:Act->World->Prop,(∀ ds F h m,WC P y Q { n with ds:=ds } F h m->∀ a w,Fr { n with ds:=ds } F a->St m h w->K a w)->WC P x (Exit.then K Q) n F h m):WC P (.seq x y) Q n F h m:=c7B k
theorem bk {id:Nat} {c:Code} (k:WC P c (Exit.inBlock id Q) n F h m):WC P (.block id c) Q n F h m:=WC.block k
theorem rg {id:Nat} {l:List Oper} {G:List (Option Nat)} (k:∀ ops:Array Oper,(∀ j t,G[j]?=some (some t)->a4d ops j=some t)->WL P ops Q n l F h m) (hG:b2q l=some G:=by exact rfl):WC P (.region id l.toArray false) Q n F h m:=b2k hG k
theorem rn {id:Nat} {l:List Oper} {G:List (Option Nat)} (k:∀ ops:Array Oper,WL P ops Q n l F h m) (hG:b2q l=some G:=by exact rfl):WC P (.region id l.toArray false) Q n F h m:=b2k hG fun o _=>k o
end
section
variable {P:Program} {ops:Array Oper} {Q:Exit->Act->World->Prop} {n:Cx} {F:Fm} {m:View} {eff:List Nat} {t:Tl} {hs hp:List Res} {i:Nat} {s:Tr}
variable {op:Op} {ty:TypeId} {pos:String} {after:Array Edge} {d:Nat} {v:Value}
theorem yG (ho:ops[i]?=some ⟨some d,op,ty,pos,after,none⟩) (p:PO P ⟨some d,op,ty,pos,after,none⟩ n F hs m v) (k:SR P ops Q n eff t hs s ((d,v)::F) hp m) (he:eff.contains i=false:=by exact rfl) (hn:Nat.ble (d+1) n.num=true:=by exact rfl) :
 SR P ops Q n eff t hs (.op i s) F hp m:=d2T ho he p (leB hn) k
theorem yf {args:List Operand} {tys:Array TypeId} {vs:List Value} {q:FuncId} (ho:ops[i]?=some ⟨some d,.call ⟨.value (.func q),args.toArray,tys⟩,ty,pos,after,none⟩) (ea:Evs n F args vs) (c:∀ fr,CT P q vs (fr++(hp++hs)) m (A9 (fr++(hp++hs)) v)) (k:SR P ops Q n eff t hs s ((d,v)::F) hp m)
 (he:eff.contains i=true:=by exact rfl) (hn:Nat.ble (d+1) n.num=true:=by exact rfl) :
 SR P ops Q n eff t hs (.op i s) F hp m:=c4C (first:=[]) (cap:=[]) ho he Ev.func ea (fun fr=>by simpa using c fr) (leB hn) k
end
section
variable {P:Program} {ops:Array Oper} {Q:Exit->Act->World->Prop} {n:Cx} {F:Fm} {h h':List Res} {m:View} {rest:List Oper}
def Pk (P:Program) (c:Code) (Q:Exit->Act->World->Prop) (n:Cx) (F:Fm) (h:List Res) (m:View) (G:Prop):Prop:=G->WC P c Q n F h m
theorem pkS {x y:Code} {G:(Act->World->Prop)->Prop} (p:∀ K:Act->World->Prop,Pk P x (Exit.then K Q) n F h m (G K)) :
 Pk P (.seq x y) Q n F h m (∀ K:Act->World->Prop,(∀ ds F h m,WC P y Q { n with ds:=ds } F h m->∀ a w,Fr { n with ds:=ds } F a->St m h w->K a w)->G K):=fun g=>sk fun K hK=>p K (g K hK)
theorem pkB {id:Nat} {c:Code} {G:Prop} (p:Pk P c (Exit.inBlock id Q) n F h m G):Pk P (.block id c) Q n F h m G:=fun g=>bk (p g)
theorem pkR {id:Nat} {l:List Oper} {G:List (Option Nat)} (hG:b2q l=some G:=by exact rfl):Pk P (.region id l.toArray false) Q n F h m (∀ ops:Array Oper,WL P ops Q n l F h m):=fun g=>rn g hG
theorem pkG {id:Nat} {l:List Oper} {G:List (Option Nat)} (hG:b2q l=some G:=by exact rfl):Pk P (.region id l.toArray false) Q n F h m (∀ ops:Array Oper,(∀ j t,G[j]?=some (some t)->a4d ops j=some t)->WL P ops Q n l F h m):=fun g=>rg g hG
theorem pkE {c:Code}:Pk P c Q n F h m (WC P c Q n F h m):=id
theorem gD {c:Code} {G:Prop} (k:G) (p:Pk P c Q n F h m G:=by (repeat first | (apply pkS;intro _) | apply pkB);first | exact pkR | exact pkE):WC P c Q n F h m:=p k
theorem gE {c:Code} {G:Prop} (k:G) (p:Pk P c Q n F h m G:=by (repeat first | (apply pkS;intro _) | apply pkB);exact pkE):WC P c Q n F h m:=p k
theorem gG {c:Code} {G:Prop} (k:G) (p:Pk P c Q n F h m G:=by (repeat first | (apply pkS;intro _) | apply pkB);exact pkG):WC P c Q n F h m:=p k
theorem Su {F F':Fm} (q:Sub F F':=by (repeat (first | exact Sub.nil | refine Sub.cons rfl ?_ | refine Sub.consE rfl (by simp;done) ?_))):Sub F F':=q
theorem dS {id:Nat} {l:List Oper} (eff:List Nat) (s:Tr) (t:List Nat) (hm:P.follows .mixedOrders=true) {hs:List Res} (k:SR P l.toArray Q n eff ⟨t,[]⟩ hs s F [] m) (hQ:∀ c a w d v,Q (.panic c) (a.put (some d) v) w->Q (.panic c) a w:=by exact fun _ _ _ _ _ h=>h) (ok:(!eff.contains 4096&&a5a l.toArray eff s [] t [])=true:=by kernel_rfl) :
 WC P (.region id l.toArray true) Q n F ([]++hs) m:=H4 eff s t hs [] hm hQ [] ok k
theorem Lb {a b:Nat} (h:Nat.ble a b=true:=by exact rfl):a<=b:=leB h
section
variable {op:BinOp} {kk:IntKind} {i j:Int} {v:Value} {t t':TypeId} {pos:String} {after:Array Edge} {ty:TypeId} {d x y:Nat}
theorem bB (k:WL P ops Q n rest ((d,v)::F) h m) (e1:look F x=some (.int kk i):=by exact rfl) (hv:iop op kk i j=some v:=by exact rfl) (hn:Nat.ble (d+1) n.num=true:=by exact rfl) :
 WL P ops Q n (⟨some d,.binOp op t (.tmp x) (.const (.int kk j)) t',ty,pos,after,none⟩::rest) F h m:=xG (S0 (Ev.tmp e1) Ev.const hv) k hn
theorem bD (k:WL P ops Q n rest ((d,v)::F) h m) (e1:look F x=some (.int kk i):=by exact rfl) (e2:look F y=some (.int kk j):=by exact rfl) (hv:iop op kk i j=some v:=by exact rfl) (hn:Nat.ble (d+1) n.num=true:=by exact rfl) :
 WL P ops Q n (⟨some d,.binOp op t (.tmp x) (.tmp y) t',ty,pos,after,none⟩::rest) F h m:=xG (S0 (Ev.tmp e1) (Ev.tmp e2) hv) k hn
theorem bI (k:WL P ops Q n rest ((d,.int .i64 (i+j))::F) h m) (e1:look F x=some (.int .i64 i):=by exact rfl) (h1:-9223372036854775808<=i+j/\i+j<=9223372036854775807:=by omega) (hn:Nat.ble (d+1) n.num=true:=by exact rfl) :
 WL P ops Q n (⟨some d,.binOp .add t (.tmp x) (.const (.int .i64 j)) t',ty,pos,after,none⟩::rest) F h m:=xG (R2 (Ev.tmp e1) Ev.const h1) k hn
end
theorem dF {p:Prop} [Decidable p] (q:decide p=false):¬p:=of_decide_eq_false q
theorem dT {p:Prop} [Decidable p] (q:decide p=true):p:=of_decide_eq_true q
end
section
variable {P:Program} {ops:Array Oper} {Q Q':Exit->Act->World->Prop} {n:Cx} {F F':Fm} {h h':List Res} {m:View} {rest:List Oper} {y:Code} {ts:List Nat} {id:Nat} {W G:Prop}
class Ud (P:Program) (t:TypeId) (u:outParam TypeDesc):Prop where h:P.underlying t=some u
class Es (P:Program) (t:TypeId) (e:outParam TypeId) (sz b:outParam Nat):Prop where h:EL P t e sz b
class Ln {α:Type} (e:α->List Value) (sz:outParam Nat):Prop where
 h:∀ x,(e x).length=sz
 p:0 < sz
theorem UU {t:TypeId} {u:TypeDesc} [i:Ud P t u]:P.underlying t=some u:=i.h
theorem LL {α:Type} {e:α->List Value} {sz:Nat} [i:Ln e sz]:∀ x,(e x).length=sz:=i.h
section
variable {α:Type} {e:α->List Value} {x:Operand} {t:TypeId} {u:TypeDesc} {a:Option Addr} {len cap q sz o:Nat} {l:List α} {z:α} {v:Value} {vs:List Value} {dst:Option Nat} {ty:TypeId} {pos:String} {after:Array Edge} {g:Option (Nat × Bool)}
theorem pX [E:Ln e 1] (ht:P.underlying t=some u) (hp:P9 u=true) (ex:Ev n F x (.pointer (elt a (q * 1)))) (hs:Rd m h a len cap 1 (fl e l)) (hx:l[q]?=some z) (hv:e z=[v]):PO P ⟨dst,.load t x,ty,pos,after,g⟩ n F h m v:=c1Z ht hp E.h hs ex hx hv
theorem pY [E:Ln e sz] (ht:P.underlying t=some u) (hp:P9 u=false) (hq:(P.info? t).isSome=true) (ex:Ev n F x (.pointer (elt a (q * sz)))) (hs:Rd m h a len cap sz (fl e l)) (hx:l[q]?=some z) (hv:e z=vs) (hl:P.cellsOf t=vs.length) (h0:0 < vs.length):PO P ⟨dst,.load t x,ty,pos,after,g⟩ n F h m (.agg vs.toArray):=a7a ht hp hq E.h hs ex hx hv hl h0
theorem pZ [E:Ln e sz] (ht:P.underlying t=some u) (hp:P9 u=true) (ex:Ev n F x (.pointer (elt a (q * sz+o)))) (hs:Rd m h a len cap sz (fl e l)) (hx:l[q]?=some z) (hv:(e z)[o]?=some v):PO P ⟨dst,.load t x,ty,pos,after,g⟩ n F h m v:=J5 ht hp E.h hs ex hx hv
end
theorem pE {α:Type} {e:α->List Value} {l:List α} {q:Nat} {z:α} {x:Operand} {t i o len cap sz:Nat} {fs:Array Field} {f:Field} {a:Option Addr} {dst:Option Nat} {ty:TypeId} {pos:String} {after:Array Edge} {g:Option (Nat × Bool)} [E:Ln e sz] (ht:P.underlying t=some (.struct fs)) (hf:fs[i]?=some f) (hz:P.cellsOf f.type≠0) (hs:Rd m h a len cap sz (fl e l)) (hx:l[q]?=some z) (ex:Ev n F x (.pointer (elt a o))) :
 PO P ⟨dst,.fieldAddr t x i,ty,pos,after,g⟩ n F h m (.pointer (elt a (o+f.offset))):=J0 ht hf hz E.h E.p hs hx ex
theorem pI {x i:Operand} {t e:TypeId} {a:Option Addr} {len cap sz q b:Nat} {k:IntKind} {j:Int} {xs:List Value} {dst:Option Nat} {ty:TypeId} {pos:String} {after:Array Edge} {g:Option (Nat × Bool)} [E:Es P t e sz b] (ex:Ev n F x (.slice a len cap)) (ei:Ev n F i (.int k j)) (hs:Rd m h a len cap sz xs) (hj:j=(q:Int)) (hq:q < len) :
 PO P ⟨dst,.indexAddr t x i,ty,pos,after,g⟩ n F h m (.pointer (elt a (q * sz))):=H8 E.h.und E.h.size E.h.posz ex ei hs hj hq
structure Tg (ts:List Nat):Prop
theorem sq {x:Code} (k:WC P x (Exit.then (KK P y Q n.ro) Q) n F h m):WC P (.seq x y) Q n F h m:=WC.seq k
theorem rq {l:List Oper} (k:WL P l.toArray Q n l F h m) (hG:l.all a2c=true:=by exact rfl):WC P (.region id l.toArray false) Q n F h m:=.mk fun a w ha hs=>b3P (by simpa using hG) (k.e a w ha hs)
theorem wnT (_:Tg ts) (k:WC P y Q n F' h m) (hq:Q' .normal=KK P y Q n.ro:=by exact rfl) (hk:a6d F ts=some F':=by exact rfl):WL P ops Q' n [] F h m:=WL.nil (hq ▸ b5O hk k.e)
theorem skT (_:Tg ts) (k:WC P y Q n F' h m) (hq:Q' .normal=KK P y Q n.ro:=by exact rfl) (hk:a6d F ts=some F':=by exact rfl):WC P .skip Q' n F h m:=WC.skip (hq ▸ b5O hk k.e)
theorem exT (_:Tg ts) (k:WC P y Q n F' h m) (hq:Q' (.exit id)=KK P y Q n.ro:=by exact rfl) (hk:a6d F ts=some F':=by exact rfl):WC P (.exit id) Q' n F h m:=WC.exit (hq ▸ b5O hk k.e)
structure Hd (G:Prop):Prop where g:G
theorem j0 (k:G) (p:Hd G->W:=by intro g;(repeat first | refine sq ?_ | refine bk ?_);first | exact rq g.g | exact g.g):W:=p ⟨k⟩
theorem jS (k:G) (p:Hd G->W:=by intro g;(repeat refine sq ?_);exact g.g):W:=p ⟨k⟩
theorem jE (k:G) (p:Hd G->W:=by intro g;(repeat first | refine sq ?_ | refine bk ?_);exact g.g):W:=p ⟨k⟩
theorem cb {f:FuncId} {args:List Value} {R:Value->View->List Res->Prop} {fn:Func} {c:Code} {F0:Fm} {N:Nat} (k:WC P c (bodyPost P fn (RQ m R)) ⟨N,none,[]⟩ F0 h m) (he:∀ as w,(callFunc f as).run P w=.ok (.enter f as) w:=by exact fun _ _=>rfl) (hf:P.funcs[f]?=some fn:=by exact rfl) (hb:fn.body=some c:=by exact rfl) (hN:fn.ntmps=N:=by exact rfl) (hl:Nat.ble args.length N=true:=by exact rfl) (hF:a7z 0 args=some F0:=by exact rfl):CT P f args h m R:=CT.body he hf hb hN (leB hl) hF k
theorem Eb {ps:List (Nat × Operand)} {vs:List (Nat × Value)} (h:EvP n F ps vs:=by (repeat (apply EvP.cons;first | exact Ev.const | exact Et));exact EvP.nil):EvP n F ps vs:=h
theorem jw (k:G) (p:Hd G->W:=by intro g;(first | (show WL _ _ _ _ (⟨_,.move _,_,_,_,none⟩::_) _ _ _;first | refine xM ?_ | refine xK ?_) | (show WL _ _ _ _ (⟨_,.assign _,_,_,_,none⟩::_) _ _ _;first | refine xA ?_ | refine xC ?_) | (show WL _ _ _ _ (⟨_,.fieldAddr _ _ _,_,_,_,none⟩::_) _ _ _;first | refine xF UU ?_ | refine xG (pE UU rfl (Nat.ne_of_beq_eq_false rfl) Rr (by assumption) (Ev.tmp rfl)) ?_) | (show WL _ _ _ _ (⟨_,.load _ _,_,_,_,none⟩::_) _ _ _;first | refine xG (pL UU) ?_ | refine xG (pA UU) ?_ | refine xG (pZ UU rfl (by exact Ev.tmp rfl) Rr (by assumption) (by exact rfl)) ?_ | refine xG (pX UU rfl (by exact Ev.tmp rfl) Rr (by assumption) (by exact rfl)) ?_ | refine xG (pY UU rfl rfl (by exact Ev.tmp rfl) Rr (by assumption) (by exact rfl) (by exact rfl) (by exact Nat.succ_pos _)) ?_) | (show WL _ _ _ _ (⟨_,.store _ _ _,_,_,_,none⟩::_) _ _ _;refine xS ?_) | (show WL _ _ _ _ (⟨_,.binOp _ _ _ _ _,_,_,_,none⟩::_) _ _ _;first | refine bI ?_ | refine bB ?_ | refine bD ?_) | (show WL _ _ _ _ (⟨_,.pick _ _ _,_,_,_,none⟩::_) _ _ _;first | refine xP ?_ | refine xQ ?_) | (show WL _ _ _ _ (⟨_,.extract _ _,_,_,_,none⟩::_) _ _ _;refine xE ?_) | (show WL _ _ _ _ (⟨_,.call _,_,_,_,none⟩::_) _ _ _;refine xG (X1 UU Et) ?_) | (show WL _ _ _ _ (⟨_,.unOp _ _ _,_,_,_,none⟩::_) _ _ _;refine xG (PO.not Et) ?_) | (show WL _ _ _ _ (⟨_,.build _ _,_,_,_,none⟩::_) _ _ _;refine xG (PO.build UU rfl rfl rfl Eb (by exact rfl)) ?_) | (show WL _ _ _ _ (⟨_,.indexAddr _ _ _,_,_,_,none⟩::_) _ _ _;refine xG (pI (Ev.tmp rfl) (Ev.tmp rfl) Rr rfl (by omega)) ?_) | (show WL _ _ _ _ (⟨_,.nilCheck _,_,_,_,none⟩::_) _ _ _;refine xG (PO.nilCheck Et) ?_));exact g.g):W:=p ⟨k⟩
theorem jg (k:G) (p:Hd G->W:=by intro g;(first | (show WL _ _ _ _ (⟨_,.move _,_,_,_,some _⟩::_) _ _ _;first | refine zV ?_ | refine zM ?_) | (show WL _ _ _ _ (⟨_,.fieldAddr _ _ _,_,_,_,some _⟩::_) _ _ _;first | refine zG (fun _=>pF UU) ?_ | refine zG (fun hc=>PO.fieldAddr UU rfl (Nat.ne_of_beq_eq_false rfl) (Eg hc)) ?_) | (show WL _ _ _ _ (⟨_,.load _ _,_,_,_,some _⟩::_) _ _ _;first | refine zG (fun hc=>E6 UU rfl (Eg hc) Me rfl) ?_ | refine zG (fun hc=>U2 UU rfl rfl (Eg hc) Me rfl) ?_) | (show WL _ _ _ _ (⟨_,.call _,_,_,_,some _⟩::_) _ _ _;refine zG (fun hc=>X1 UU (Eg hc)) ?_) | (show WL _ _ _ _ (⟨_,.binOp _ _ _ _ _,_,_,_,some _⟩::_) _ _ _;first | refine zG (fun hc=>S0 (Eg hc) Ev.const rfl) ?_ | refine zG (fun hc=>S0 (Eg hc) (Eg hc) rfl) ?_) | (show WL _ _ _ _ (⟨_,.unOp _ _ _,_,_,_,some _⟩::_) _ _ _;refine zG (fun hc=>PO.not (Eg hc)) ?_));exact g.g):W:=p ⟨k⟩
theorem yY {eff:List Nat} {t:Tl} {hs hp:List Res} {i:Nat} {s:Tr} {o:Oper} (k:ops[i]?=some o->SR P ops Q n eff t hs (.op i s) F hp m) (ho:ops[i]?=some o:=by exact rfl):SR P ops Q n eff t hs (.op i s) F hp m:=k ho
theorem jy (k:G) (p:Hd G->W:=by intro g;(first | (show(_:Option Oper)=some ⟨_,.move _,_,_,_,none⟩->_;refine fun e=>yG e (PO.move Et) ?_) | (show(_:Option Oper)=some ⟨_,.fieldAddr _ _ _,_,_,_,none⟩->_;first | refine fun e=>yG e (pF UU) ?_ | refine fun e=>yG e (pE UU rfl (Nat.ne_of_beq_eq_false rfl) Rr (by assumption) (Ev.tmp rfl)) ?_) | (show(_:Option Oper)=some ⟨_,.load _ _,_,_,_,none⟩->_;first | refine fun e=>yG e (pL UU) ?_ | refine fun e=>yG e (pA UU) ?_ | refine fun e=>yG e (pZ UU rfl (by exact Ev.tmp rfl) Rr (by assumption) (by exact rfl)) ?_ | refine fun e=>yG e (pX UU rfl (by exact Ev.tmp rfl) Rr (by assumption) (by exact rfl)) ?_ | refine fun e=>yG e (pY UU rfl rfl (by exact Ev.tmp rfl) Rr (by assumption) (by exact rfl) (by exact rfl) (by exact Nat.succ_pos _)) ?_) | (show(_:Option Oper)=some ⟨_,.pick _ _ _,_,_,_,none⟩->_;refine fun e=>yG e (a7R rfl rfl) ?_) | (show(_:Option Oper)=some ⟨_,.indexAddr _ _ _,_,_,_,none⟩->_;refine fun e=>yG e (pI (Ev.tmp rfl) (Ev.tmp rfl) Rr rfl (by omega)) ?_) | (show(_:Option Oper)=some ⟨_,.nilCheck _,_,_,_,none⟩->_;refine fun e=>yG e (PO.nilCheck Et) ?_));exact g.g):W:=p ⟨k⟩
theorem jz (k:G) (p:Hd G->W:=by intro g;(first | (show(_:Option Oper)=some ⟨_,.fieldAddr _ _ _,_,_,_,some _⟩->_;refine fun e=>B9 e rfl (GU.t rfl rfl) (fun hc=>PO.fieldAddr UU rfl (Nat.ne_of_beq_eq_false rfl) Et) Lb ?_) | (show(_:Option Oper)=some ⟨_,.load _ _,_,_,_,some _⟩->_;first | refine fun e=>B9 e rfl (GU.t rfl rfl) (fun hc=>E6 UU rfl (Eg hc) Me rfl) Lb ?_ | refine fun e=>B9 e rfl (GU.t rfl rfl) (fun hc=>U2 UU rfl rfl (Eg hc) Me rfl) Lb ?_));exact g.g):W:=p ⟨k⟩
theorem j1 (k:G) (p:Hd G->W:=by intro g;first | (show WL _ _ _ _ (⟨_,_,_,_,_,none⟩::_) _ _ _;exact jw g.g) | (show WL _ _ _ _ (⟨_,_,_,_,_,some _⟩::_) _ _ _;exact jg g.g) | (refine yY ?_;first | (show(_:Option Oper)=some ⟨_,_,_,_,_,none⟩->_;exact jy g.g) | (show(_:Option Oper)=some ⟨_,_,_,_,_,some _⟩->_;exact jz g.g))):W:=p ⟨k⟩
theorem kQ0 (ts:List Nat) (k:G) (p:Tg ts->Hd G->W:=by
 intro t g;refine j0 ?_
 first | refine wnT t ?_ | refine skT t ?_ | refine exT t ?_
 exact j0 g.g):W:=p ⟨⟩ ⟨k⟩
theorem kP0 (ts:List Nat) (k:G) (p:Tg ts->Hd G->W:=by
 intro t g;refine j0 ?_
 first | refine wnT t ?_ | refine skT t ?_ | refine exT t ?_
 exact jS g.g):W:=p ⟨⟩ ⟨k⟩
theorem kA1 (k:G) (p:Hd G->W:=by
 intro g;refine j0 ?_
 refine j1 ?_;exact g.g):W:=p ⟨k⟩
theorem kQ1 (ts:List Nat) (k:G) (p:Tg ts->Hd G->W:=by
 intro t g;refine j0 ?_
 refine j1 ?_;first | refine wnT t ?_ | refine skT t ?_ | refine exT t ?_
 exact j0 g.g):W:=p ⟨⟩ ⟨k⟩
theorem kP1 (ts:List Nat) (k:G) (p:Tg ts->Hd G->W:=by
 intro t g;refine j0 ?_
 refine j1 ?_;first | refine wnT t ?_ | refine skT t ?_ | refine exT t ?_
 exact jS g.g):W:=p ⟨⟩ ⟨k⟩
theorem kA2 (k:G) (p:Hd G->W:=by
 intro g;refine j0 ?_
 iterate 2 refine j1 ?_
 exact g.g):W:=p ⟨k⟩
theorem kQ2 (ts:List Nat) (k:G) (p:Tg ts->Hd G->W:=by
 intro t g;refine j0 ?_
 iterate 2 refine j1 ?_
 first | refine wnT t ?_ | refine skT t ?_ | refine exT t ?_
 exact j0 g.g):W:=p ⟨⟩ ⟨k⟩
theorem kP2 (ts:List Nat) (k:G) (p:Tg ts->Hd G->W:=by
 intro t g;refine j0 ?_
 iterate 2 refine j1 ?_
 first | refine wnT t ?_ | refine skT t ?_ | refine exT t ?_
 exact jS g.g):W:=p ⟨⟩ ⟨k⟩
theorem kA3 (k:G) (p:Hd G->W:=by
 intro g;refine j0 ?_
 iterate 3 refine j1 ?_
 exact g.g):W:=p ⟨k⟩
theorem kQ3 (ts:List Nat) (k:G) (p:Tg ts->Hd G->W:=by
 intro t g;refine j0 ?_
 iterate 3 refine j1 ?_
 first | refine wnT t ?_ | refine skT t ?_ | refine exT t ?_
 exact j0 g.g):W:=p ⟨⟩ ⟨k⟩
theorem kP3 (ts:List Nat) (k:G) (p:Tg ts->Hd G->W:=by
 intro t g;refine j0 ?_
 iterate 3 refine j1 ?_
 first | refine wnT t ?_ | refine skT t ?_ | refine exT t ?_
 exact jS g.g):W:=p ⟨⟩ ⟨k⟩
theorem kA4 (k:G) (p:Hd G->W:=by
 intro g;refine j0 ?_
 iterate 4 refine j1 ?_
 exact g.g):W:=p ⟨k⟩
theorem kQ4 (ts:List Nat) (k:G) (p:Tg ts->Hd G->W:=by
 intro t g;refine j0 ?_
 iterate 4 refine j1 ?_
 first | refine wnT t ?_ | refine skT t ?_ | refine exT t ?_
 exact j0 g.g):W:=p ⟨⟩ ⟨k⟩
theorem kP4 (ts:List Nat) (k:G) (p:Tg ts->Hd G->W:=by
 intro t g;refine j0 ?_
 iterate 4 refine j1 ?_
 first | refine wnT t ?_ | refine skT t ?_ | refine exT t ?_
 exact jS g.g):W:=p ⟨⟩ ⟨k⟩
theorem kA5 (k:G) (p:Hd G->W:=by
 intro g;refine j0 ?_
 iterate 5 refine j1 ?_
 exact g.g):W:=p ⟨k⟩
theorem kQ5 (ts:List Nat) (k:G) (p:Tg ts->Hd G->W:=by
 intro t g;refine j0 ?_
 iterate 5 refine j1 ?_
 first | refine wnT t ?_ | refine skT t ?_ | refine exT t ?_
 exact j0 g.g):W:=p ⟨⟩ ⟨k⟩
theorem kP5 (ts:List Nat) (k:G) (p:Tg ts->Hd G->W:=by
 intro t g;refine j0 ?_
 iterate 5 refine j1 ?_
 first | refine wnT t ?_ | refine skT t ?_ | refine exT t ?_
 exact jS g.g):W:=p ⟨⟩ ⟨k⟩
theorem kA6 (k:G) (p:Hd G->W:=by
 intro g;refine j0 ?_
 iterate 6 refine j1 ?_
 exact g.g):W:=p ⟨k⟩
theorem kQ6 (ts:List Nat) (k:G) (p:Tg ts->Hd G->W:=by
 intro t g;refine j0 ?_
 iterate 6 refine j1 ?_
 first | refine wnT t ?_ | refine skT t ?_ | refine exT t ?_
 exact j0 g.g):W:=p ⟨⟩ ⟨k⟩
theorem kP6 (ts:List Nat) (k:G) (p:Tg ts->Hd G->W:=by
 intro t g;refine j0 ?_
 iterate 6 refine j1 ?_
 first | refine wnT t ?_ | refine skT t ?_ | refine exT t ?_
 exact jS g.g):W:=p ⟨⟩ ⟨k⟩
theorem kA7 (k:G) (p:Hd G->W:=by
 intro g;refine j0 ?_
 iterate 7 refine j1 ?_
 exact g.g):W:=p ⟨k⟩
theorem kQ7 (ts:List Nat) (k:G) (p:Tg ts->Hd G->W:=by
 intro t g;refine j0 ?_
 iterate 7 refine j1 ?_
 first | refine wnT t ?_ | refine skT t ?_ | refine exT t ?_
 exact j0 g.g):W:=p ⟨⟩ ⟨k⟩
theorem kP7 (ts:List Nat) (k:G) (p:Tg ts->Hd G->W:=by
 intro t g;refine j0 ?_
 iterate 7 refine j1 ?_
 first | refine wnT t ?_ | refine skT t ?_ | refine exT t ?_
 exact jS g.g):W:=p ⟨⟩ ⟨k⟩
theorem kA8 (k:G) (p:Hd G->W:=by
 intro g;refine j0 ?_
 iterate 8 refine j1 ?_
 exact g.g):W:=p ⟨k⟩
theorem kQ8 (ts:List Nat) (k:G) (p:Tg ts->Hd G->W:=by
 intro t g;refine j0 ?_
 iterate 8 refine j1 ?_
 first | refine wnT t ?_ | refine skT t ?_ | refine exT t ?_
 exact j0 g.g):W:=p ⟨⟩ ⟨k⟩
theorem kP8 (ts:List Nat) (k:G) (p:Tg ts->Hd G->W:=by
 intro t g;refine j0 ?_
 iterate 8 refine j1 ?_
 first | refine wnT t ?_ | refine skT t ?_ | refine exT t ?_
 exact jS g.g):W:=p ⟨⟩ ⟨k⟩
theorem kA9 (k:G) (p:Hd G->W:=by
 intro g;refine j0 ?_
 iterate 9 refine j1 ?_
 exact g.g):W:=p ⟨k⟩
theorem kQ9 (ts:List Nat) (k:G) (p:Tg ts->Hd G->W:=by
 intro t g;refine j0 ?_
 iterate 9 refine j1 ?_
 first | refine wnT t ?_ | refine skT t ?_ | refine exT t ?_
 exact j0 g.g):W:=p ⟨⟩ ⟨k⟩
theorem kP9 (ts:List Nat) (k:G) (p:Tg ts->Hd G->W:=by
 intro t g;refine j0 ?_
 iterate 9 refine j1 ?_
 first | refine wnT t ?_ | refine skT t ?_ | refine exT t ?_
 exact jS g.g):W:=p ⟨⟩ ⟨k⟩
theorem b4X (k:G) (p:Hd G->W:=by
 intro g;refine j0 ?_
 iterate 10 refine j1 ?_
 exact g.g):W:=p ⟨k⟩
theorem c6V (ts:List Nat) (k:G) (p:Tg ts->Hd G->W:=by
 intro t g;refine j0 ?_
 iterate 10 refine j1 ?_
 first | refine wnT t ?_ | refine skT t ?_ | refine exT t ?_
 exact j0 g.g):W:=p ⟨⟩ ⟨k⟩
theorem d3K (ts:List Nat) (k:G) (p:Tg ts->Hd G->W:=by
 intro t g;refine j0 ?_
 iterate 10 refine j1 ?_
 first | refine wnT t ?_ | refine skT t ?_ | refine exT t ?_
 exact jS g.g):W:=p ⟨⟩ ⟨k⟩
theorem d2F (k:G) (p:Hd G->W:=by
 intro g;refine j0 ?_
 iterate 11 refine j1 ?_
 exact g.g):W:=p ⟨k⟩
theorem c6A (ts:List Nat) (k:G) (p:Tg ts->Hd G->W:=by
 intro t g;refine j0 ?_
 iterate 11 refine j1 ?_
 first | refine wnT t ?_ | refine skT t ?_ | refine exT t ?_
 exact j0 g.g):W:=p ⟨⟩ ⟨k⟩
theorem d3J (ts:List Nat) (k:G) (p:Tg ts->Hd G->W:=by
 intro t g;refine j0 ?_
 iterate 11 refine j1 ?_
 first | refine wnT t ?_ | refine skT t ?_ | refine exT t ?_
 exact jS g.g):W:=p ⟨⟩ ⟨k⟩
theorem b1k (k:G) (p:Hd G->W:=by
 intro g;refine j0 ?_
 iterate 12 refine j1 ?_
 exact g.g):W:=p ⟨k⟩
theorem d3H (ts:List Nat) (k:G) (p:Tg ts->Hd G->W:=by
 intro t g;refine j0 ?_
 iterate 12 refine j1 ?_
 first | refine wnT t ?_ | refine skT t ?_ | refine exT t ?_
 exact j0 g.g):W:=p ⟨⟩ ⟨k⟩
theorem d3L (ts:List Nat) (k:G) (p:Tg ts->Hd G->W:=by
 intro t g;refine j0 ?_
 iterate 12 refine j1 ?_
 first | refine wnT t ?_ | refine skT t ?_ | refine exT t ?_
 exact jS g.g):W:=p ⟨⟩ ⟨k⟩
end
section
variable {P:Program} {ops:Array Oper} {Q:Exit->Act->World->Prop} {n:Cx} {F:Fm} {h h' hh:List Res} {m m0:View} {rest:List Oper} {v v2:Value} {r r2:ResultVar} {fn:Func}
theorem Ek {w:Value}:Ev n F (.const w) w:=Ev.const
theorem Ef {q:FuncId}:Ev n F (.func q) (.func (.func q) #[] #[]):=Ev.func
theorem Vl:m.le m:=View.le.refl m
theorem cA {p t:Nat} {u:TypeDesc} {b off:Nat} {cs:List Value} {e:TypeId} {fz:Nat × Nat} {vs:List Value} (ht:P.underlying t=some u) (hp:P9 u=false:=by exact rfl) (hq:(P.info? t).isSome=true:=by exact rfl) (hl:look F p=some (.pointer (some ⟨b,off,none⟩)):=by exact rfl)
 (hm:Res.pt b (.cells cs.toArray e fz) ∈ h:=by exact Me) (hv:seg cs off (P.cellsOf t)=some vs:=by exact rfl):RV P n F h m (.cell p t) (.agg vs.toArray):=L9 ht hp hq hl hm hv
theorem wT (hh:List Res) {R:Value->View->List Res->Prop} (hR:R v m hh) (hQ:Q .ret=bodyPost P fn (RQ m0 R) .ret:=by exact rfl) (hfn:fn.results=#[r]:=by exact rfl) (h1:RV P n F h m r v:=by exact RV.tmp rfl) (hle:m0.le m:=by exact View.le.refl _) (hd:hh.Sublist h:=by exact Sb) (hds:n.ds=[]:=by exact rfl) :
 WC P .ret Q n F h m:=WC.ret (by rw[hQ];exact b1K (h':=hh) (.inl rfl) hfn h1 hle hd hR hds)
theorem xT (hh:List Res) {R:Value->View->List Res->Prop} {X:Value->List Res->Prop} (hR:R v m hh) (hQ:Q .ret=bodyPost P fn (RX m0 R X) .ret:=by exact rfl) (hfn:fn.results=#[r]:=by exact rfl) (h1:RV P n F h m r v:=by exact RV.tmp rfl) (hle:m0.le m:=by exact View.le.refl _) (hd:hh.Sublist h:=by exact Sb) (hds:n.ds=[]:=by exact rfl) :
 WC P .ret Q n F h m:=WC.ret (by rw[hQ];exact toX (.inl rfl) (b1K (h':=hh) (.inl rfl) hfn h1 hle hd hR hds))
theorem w2 (hh:List Res) {R:Value->View->List Res->Prop} (hR:R (.tuple #[v,v2]) m hh) (hQ:Q .ret=bodyPost P fn (RQ m0 R) .ret:=by exact rfl) (hfn:fn.results=#[r,r2]:=by exact rfl) (h1:RV P n F h m r v:=by exact RV.tmp rfl) (h2:RV P n F h m r2 v2:=by exact RV.tmp rfl) (hle:m0.le m:=by exact View.le.refl _) (hd:hh.Sublist h:=by exact Sb) (hds:n.ds=[]:=by exact rfl) :
 WC P .ret Q n F h m:=WC.ret (by rw[hQ];exact c5U (h':=hh) (.inl rfl) hfn h1 h2 hle hd hR hds)
theorem w0 (hh:List Res) {R:Value->View->List Res->Prop} (hR:R (.tuple #[]) m hh) (hfn:fn.results=#[]:=by exact rfl) (hle:m0.le m:=by exact View.le.refl _) (hd:hh.Sublist h:=by exact Sb) (hds:n.ds=[]:=by exact rfl) :
 ∀ a w,Fr n F a->St m h w->bodyPost P fn (RQ m0 R) .normal a w:=b4l (h':=hh) (.inr rfl) hfn hle hd hR hds
theorem sB {eff:List Nat} {t':Tl} {hs hp:List Res} {q d:Nat} {s:Tr} {t e k:Nat} {sz by_:Nat} {ps:List (Nat × Operand)} {vs:List (Nat × Value)} {z:Value} {zs cs:List Value} {ty:TypeId} {pos:String} {after:Array Edge}
 (ho:ops[q]?=some ⟨some d,.buildSlice t k ps.toArray,ty,pos,after,none⟩) (E:EL P t e sz by_) (kk:∀ b,SR P ops Q n eff t' hs s ((d,.slice (some ⟨b,0,none⟩) k k)::F) (.pt b (.cells cs.toArray e (0,0))::hp) m) (ev:EvP n F ps vs:=by exact Eb) (he:eff.contains q=true:=by exact rfl) (hz:(P.info? e).bind (·.zero)=some z:=by exact rfl)
 (hzs:a9I z k=some zs:=by exact rfl) (hf:a5J (fun i=>some (i * sz,sz)) zs vs=some cs:=by exact rfl) (hk:k * sz<=16777216:=by decide) (h0:Nat.beq (k * sz) 0=false:=by exact rfl) (hd:Nat.ble (d+1) n.num=true:=by exact rfl):SR P ops Q n eff t' hs (.op q s) F hp m:=SR.buildSlice ho he E hz ev hzs hf hk h0 (leB hd) kk
theorem pD (r:Res) {l:List Oper} (k:WL P ops Q n l F (r::h') m) (d:Del h r h':=by exact De):WL P ops Q n l F h m:=WL.perm (Del.perm d) k
theorem kR (a:Option Addr) {l:List Oper} {k cap sz:Nat} {e:TypeId} {ys:List Value} (kk:k<=cap->cap<=9223372036854775807->ys.length=k * sz->WL P ops Q n l F h m) (hm:Res.row (.slice a k cap) e sz k ys ∈ h:=by exact Me):WL P ops Q n l F h m:=b7U hm kk
theorem iR {a:Option Addr} {k cap sz:Nat} {e:TypeId} {ys:List Value} (hl:ys.length=k * sz) (hle:k<=cap) (hmx:cap<=9223372036854775807) (hm:Res.row (.slice a k cap) e sz k ys ∈ h:=by exact Me):Rd m h a k cap sz ys:=Rd.inRow hm hl hle hmx
end
end
end Go.Eng
namespace Go.Lx
abbrev B:=List UInt8
def ltr (z:Int):Bool:=(decide (z >= 97)&&decide (z<=122))||(decide (z >= 65)&&decide (z<=90))
def c8j (z:Int):Bool:=(decide (z >= 65)&&decide (z<=90))||(decide (z >= 97)&&decide (z<=122))
def dig (z:Int):Bool:=decide (z >= 48)&&decide (z<=57)
def wch (c:UInt8):Bool:=!(!ltr c.toNat&&!dig c.toNat&&((c.toNat:Int) != 46))
def c5y (z:Int):Bool:=c8j z||dig z||(z==46)
def run:B->Nat
 | []=>0
 | c::l=>if wch c then run l+1 else 0
theorem a7K:∀ l,run l<=l.length
 | []=>Nat.le_refl _
 | c::l=>by
  unfold run;have:=a7K l;split <;> simp <;> omega
theorem c4f {l:B} {k:Nat} {c:UInt8} (hc:l[k]?=some c):run (l.drop k)=if wch c then run (l.drop (k+1))+1 else 0:=by
 have h1:k < l.length:=(List.getElem?_eq_some_iff.1 hc).1;rw[List.drop_eq_getElem_cons h1,(List.getElem?_eq_some_iff.1 hc).2];rfl
def a8F:B:=[32,65,70,84,69,82,32,65,76,84,32,65,78,68,32,66,79,79,76,32,66,89,84,69,32,67,65,83,69,32,67,72,65,78,32,69,76,83,69,32,70,65,76,83,69,32,70,79,82,32,73,70,32,73,78,84,32,73,83,32,77,73,78,85,83,32,78,79,84,32,79,70,32,79,82,32,80,65,82,32,80,76,65,67,69,68,32,80,76,85,83,32,80,82,73,32,80,82,79,67,32,80,82,79,67,69,83,83,79,82,32,80,82,79,84,79,67,79,76,32,83,69,81,32,83,73,90,69,32,83,75,73,80,32,83,84,79,80,32,84,73,77,69,82,32,84,73,77,69,83,32,84,82,85,69,32,86,65,76,32,87,72,73,76,69,32]
def key (s:B):Bool:=!(s==[])&&((run s:Int)==s.length)&&Lib.contains a8F ([32]++s++[32])
def name (s:B):Bool:=!(s==[])&&decide ((s.length:Int)<=32)&&(match s with | c::_=>ltr c.toNat | []=>false)&&((run s:Int)==s.length)&&!key s
def b2T:List B:=[[65,70,84,69,82],[65,76,84],[65,78,68],[66,79,79,76],[66,89,84,69],[67,65,83,69],[67,72,65,78],[69,76,83,69],[70,65,76,83,69],[70,79,82],[73,70],[73,78,84],[73,83],[77,73,78,85,83],[78,79,84],[79,70],[79,82],[80,65,82],[80,76,65,67,69,68],[80,76,85,83],[80,82,73],[80,82,79,67],[80,82,79,67,69,83,83,79,82],[80,82,79,84,79,67,79,76],[83,69,81],[83,73,90,69],[83,75,73,80],[83,84,79,80],[84,73,77,69,82],[84,73,77,69,83],[84,82,85,69],[86,65,76],[87,72,73,76,69]]
def b06 (s:B):List B->Bool
 | []=>false
 | x::l=>if x==s then true else b06 s l
theorem Z9 (s:B):∀ l,b06 s l=true↔s ∈ l
 | []=>by simp[b06]
 | x::l=>by
  unfold b06;split
  ·rename_i h;simp at h;simp[h]
  ·rename_i h
   have h':¬ s=x:=fun e=>h (by simp[e])
   rw[Z9 s l];simp[h']
def c9Q (s:B):Bool:=b06 s b2T
def c1l:B->Bool
 | []=>true
 | c::l=>if c5y c.toNat then c1l l else false
def bad (s:B):Bool:=decide ((s.length:Int) < 1)||decide ((s.length:Int) > 32)||(match s with | c::_=>!c8j c.toNat | []=>false)||c9Q s
def d2U (s:B):Bool:=if bad s then false else c1l s
def encB (s:B):List Value:=[Eng.str s]
theorem D8 (s:B):(encB s).length=1:=rfl
set_option linter.defProp false in
@[reducible,instance]def iencB_len:=Go.Eng.Ln.mk D8 (by decide)
end Go.Lx
section
namespace Go.Xp
open Go.Eng
abbrev B:=List UInt8
inductive Ex where
 | mk (k o t n:Int) (s:B) (a:Option Addr) (c:Nat) (l:List Ex)
namespace Ex
def k:Ex->Int | mk k _ _ _ _ _ _ _=>k
def o:Ex->Int | mk _ o _ _ _ _ _ _=>o
def t:Ex->Int | mk _ _ t _ _ _ _ _=>t
def n:Ex->Int | mk _ _ _ n _ _ _ _=>n
def s:Ex->B | mk _ _ _ _ s _ _ _=>s
def a:Ex->Option Addr | mk _ _ _ _ _ a _ _=>a
def c:Ex->Nat | mk _ _ _ _ _ _ c _=>c
def l:Ex->List Ex | mk _ _ _ _ _ _ _ l=>l
end Ex
def exE (e:Ex):List Value:=[.int .u8 e.k,.int .u8 e.o,.int .u8 e.t,.int .i32 e.n,str e.s,.slice e.a e.l.length e.c]
theorem a7b (e:Ex):(exE e).length=6:=rfl
set_option linter.defProp false in
@[reducible,instance]def iexE_len:=Go.Eng.Ln.mk a7b (by decide)
def exV (e:Ex):Value:=.agg (exE e).toArray
inductive TOk (m:View) (h:List Res):Ex->Prop
 | mk {k o t n:Int} {s:B} {a:Option Addr} {c:Nat} {l:List Ex} (hr:Rd m h a l.length c 6 (fl exE l)) (hc:∀ x ∈ l,TOk m h x):TOk m h (.mk k o t n s a c l)
theorem TOk.rd {m:View} {h:List Res} {e:Ex} (q:TOk m h e):Rd m h e.a e.l.length e.c 6 (fl exE e.l):=by cases q;assumption
theorem TOk.part {m:View} {h:List Res} {e x:Ex} (q:TOk m h e) (hx:x ∈ e.l):TOk m h x:=by cases q with | mk hr hc=>exact hc x hx
theorem TOk.mono {m:View} {h h':List Res} {e:Ex} (q:TOk m h e) (hh:h.Sublist h'):TOk m h' e:=by
 induction q with
 | mk hr _ ih=>exact .mk (hr.mono Vl hh) ih
inductive Wf:Ex->Prop
 | mk {k o t n:Int} {s:B} {a:Option Addr} {c:Nat} {l:List Ex} (hk:0<=k/\k<=255) (ho:0<=o/\o<=255) (ht:0<=t/\t<=255) (hn:-2147483648<=n/\n<=2147483647) (hs:s.length<=140737488355328) (hc:∀ x ∈ l,Wf x):Wf (.mk k o t n s a c l)
theorem Wf.spec {e:Ex} (q:Wf e):((0<=e.k/\e.k<=255)/\(0<=e.o/\e.o<=255)/\(0<=e.t/\e.t<=255))/\((-2147483648<=e.n/\e.n<=2147483647)/\e.s.length<=140737488355328):=by
 cases q with | mk hk ho ht hn hs hc=>exact⟨⟨hk,ho,ht⟩,hn,hs⟩
theorem Wf.part {e x:Ex} (q:Wf e) (hx:x ∈ e.l):Wf x:=by cases q with | mk hk ho ht hn hs hc=>exact hc x hx
theorem Ex.ind {p:Ex->Prop} (h:∀ e:Ex,(∀ x ∈ e.l,p x)->p e) (e:Ex):p e:=
 Ex.rec (motive_1:=p) (motive_2:=fun l=>∀ x ∈ l,p x) (fun k o t n s a c l ih=>h (.mk k o t n s a c l) ih) (fun _ hx=>by cases hx)
  (fun y r hy hr x hx=>by
   rcases List.mem_cons.1 hx with rfl | hx
   ·exact hy
   ·exact hr x hx) e
mutual
def a7T:Ex->Nat
 | .mk _ _ _ _ _ _ _ l=>1+a5O l
def a5O:List Ex->Nat
 | []=>0
 | x::r=>a7T x+a5O r
end
theorem a1m (e:Ex):a7T e=1+a5O e.l:=by cases e;rfl
mutual
def d0q:Ex->List B
 | .mk k _ _ _ s _ _ l=>(if (k==4||k==5)||k==9 then [s] else [])++c3i l
def c3i:List Ex->List B
 | []=>[]
 | x::r=>d0q x++c3i r
end
theorem a4o {α:Type} {l:List α} {k:Nat} {c:α} (hc:l[k]?=some c):l.take (k+1)=l.take k++[c]:=by rw[List.take_add_one,hc];rfl
def b2D (x y:Ex):Bool:=((((((x.k != y.k)||(x.o != y.o))||(x.t != y.t))||(x.n != y.n))||(x.s != y.s))||((x.l.length:Int) != y.l.length))
mutual
def C7:Ex->Ex->Bool
 | .mk k o t n s a c l,y=>!b2D (.mk k o t n s a c l) y&&a2G l y.l
def a2G:List Ex->List Ex->Bool
 | [],_=>true
 | _::_,[]=>true
 | x::r,y::q=>C7 x y&&a2G r q
end
theorem b1R (x y:Ex):C7 x y=(!b2D x y&&a2G x.l y.l):=by cases x;rfl
theorem b61 {l q:List Ex} {k:Nat} {x y:Ex} (hx:l[k]?=some x) (hy:q[k]?=some y):a2G (l.drop k) (q.drop k)=(C7 x y&&a2G (l.drop (k+1)) (q.drop (k+1))):=by
 rw[show l.drop k=x::l.drop (k+1) by
  have h1:k < l.length:=(List.getElem?_eq_some_iff.1 hx).1;rw[List.drop_eq_getElem_cons h1,(List.getElem?_eq_some_iff.1 hx).2],
  show q.drop k=y::q.drop (k+1) by
   have h1:k < q.length:=(List.getElem?_eq_some_iff.1 hy).1;rw[List.drop_eq_getElem_cons h1,(List.getElem?_eq_some_iff.1 hy).2]]
 rfl
def fin (o t n:Int) (s:B):Bool:=(((o==0)&&(t==0))&&(n==0))&&(s==[])
def N3 (k:Int):B:=if k=1 then [73,78,84] else if k=2 then [66,89,84,69] else if k=3 then [66,79,79,76] else []
def F2 (e:Ex):Int × Bool:=
 if e.k=1 then (0,fin e.o e.t 0 e.s)
 else if e.k=2 then (if a8U .i32 e.n 8≠0 then (0,false) else (0,fin e.o e.t 0 e.s))
 else if e.k=3 then (if a8U .i32 e.n 1≠0 then (0,false) else (0,fin e.o e.t 0 e.s))
 else if e.k=4 then (if !Go.Lx.name e.s then (0,false) else (0,fin e.o e.t e.n []))
 else if e.k=9 then (if !Go.Lx.name e.s then (0,false) else (0,fin e.o e.t e.n []))
 else if e.k=5 then (if !Go.Lx.name e.s then (0,false) else (1,fin e.o e.t e.n []))
 else if e.k=6 then (if decide (e.o < 23)||decide (IntKind.u8.wrap (e.o - 23) >= 4) then (0,false) else (1,fin 0 e.t e.n e.s))
 else if e.k=7 then (if decide (e.o < 1)||decide (e.o > 22) then (0,false) else (2,fin 0 e.t e.n e.s))
 else if e.k=8 then (if N3 e.t==[] then (0,false) else (1,fin e.o 0 e.n e.s))
 else (0,false)
def a8h (deep left:Int) (e:Ex):Bool:=(((!(F2 e).2||decide (left - 1 < 0))||decide (deep > 32))||((e.l.length:Int) != (F2 e).1))
mutual
def S6 (deep left:Int):Ex->Option Int
 | .mk k o t n s a c l=>if a8h deep left (.mk k o t n s a c l) then none else a0T (deep+1) (left - 1) l
def a0T (deep left:Int):List Ex->Option Int
 | []=>some left
 | x::r=>match S6 deep left x with
  | some q=>a0T deep q r
  | none=>none
end
theorem a3v (deep left:Int) (e:Ex):S6 deep left e=if a8h deep left e then none else a0T (deep+1) (left - 1) e.l:=by cases e;rfl
theorem c2c {l:List Ex} {k:Nat} {x:Ex} (hx:l[k]?=some x) (deep left:Int):a0T deep left (l.drop k)=(S6 deep left x).bind fun q=>a0T deep q (l.drop (k+1)):=by
 have h1:k < l.length:=(List.getElem?_eq_some_iff.1 hx).1;rw[List.drop_eq_getElem_cons h1,(List.getElem?_eq_some_iff.1 hx).2];show(match S6 deep left x with | some q=>a0T deep q (l.drop (k+1)) | none=>none)=_;cases S6 deep left x <;> rfl
theorem b0m {deep left:Int} {e:Ex} (h:a8h deep left e=false):((F2 e).2=true/\0<=left - 1)/\deep<=32/\(e.l.length:Int)=(F2 e).1:=by
 unfold a8h at h;simp only[Bool.or_eq_false_iff,Bool.not_eq_false',decide_eq_false_iff_not,bne_eq_false_iff_eq] at h;obtain⟨⟨⟨h1,h2⟩,h3⟩,h4⟩:=h;exact⟨⟨h1,by omega⟩,by omega,h4⟩
theorem b3r (e:Ex):∀ (deep left q:Int),0<=left->S6 deep left e=some q->0<=q/\q<=left - 1:=by
 refine Ex.ind (p:=fun e=>∀ (deep left q:Int),0<=left->S6 deep left e=some q->0<=q/\q<=left - 1) (fun e ih deep left q hl hq=>?_) e;rw[a3v] at hq;split at hq
 ·cases hq
 ·rename_i hh
  have hb:=b0m (by simpa using hh);have key:∀ (l:List Ex),(∀ x ∈ l,x ∈ e.l)->∀ z,0<=z->a0T (deep+1) z l=some q->0<=q/\q<=z:=by
   intro l;induction l with
   | nil=>intro _ z hz h;cases h;omega
   | cons x r ihr=>
    intro hm z hz h;unfold a0T at h;split at h
    ·rename_i p hp
     have h1:=ih x (hm x (by simp)) _ _ _ hz hp;have h2:=ihr (fun y hy=>hm y (by simp[hy])) p h1.1 h;omega
    ·cases h
  exact key e.l (fun _ h=>h) (left - 1) (by omega) hq
def E9 (e:Ex):Bool:=(S6 1 256 e).isSome
def a7P:List B:=[[],[43],[45],[42],[47],[92],[80,76,85,83],[77,73,78,85,83],[84,73,77,69,83],[47,92],[92,47],[62,60],[60,60],[62,62],[61],[60,62],[60],[62],[60,61],[62,61],[65,78,68],[79,82],[65,70,84,69,82],[45],[77,73,78,85,83],[126],[78,79,84]]
def V0 (o:Int):B × Bool:=if o==0||decide (o >= 27) then ([],false) else (a7P.getD o.toNat [],true)
theorem a1k {α:Type} {l:List α} {k:Nat} {c:α} (hc:l[k]?=some c):l.drop k=c::l.drop (k+1):=by
 have h1:k < l.length:=(List.getElem?_eq_some_iff.1 hc).1;rw[List.drop_eq_getElem_cons h1,(List.getElem?_eq_some_iff.1 hc).2]
end Go.Xp
end
namespace Go.Lx
theorem d0H (z:Int):ltr z=c8j z:=by unfold ltr c8j;rw[Bool.or_comm]
theorem c9U (c:UInt8):wch c=c5y c.toNat:=by
 unfold wch c5y;rw[<- d0H,bne];cases ltr c.toNat <;> cases dig c.toNat <;> simp
theorem b9h:∀ s:B,((run s:Int)==s.length)=c1l s
 | []=>rfl
 | c::l=>by
  have ih:=b9h l;unfold run c1l;rw[c9U];cases c5y c.toNat
  ·simp;omega
  ·rw[<- ih]
   simp only[if_pos,List.length_cons];rw[Bool.eq_iff_iff];simp
theorem c0T:c5y ((32:UInt8).toNat)=false:=by decide
theorem b9W:∀ {s:B},c1l s=true->∀ c ∈ s,c≠32
 | [],_,c,hc=>by cases hc
 | x::l,h,c,hc=>by
  unfold c1l at h;split at h
  ·rename_i hw
   rcases List.mem_cons.1 hc with rfl | hc
   ·rintro rfl
    rw[c0T] at hw;cases hw
   ·exact b9W h c hc
  ·cases h
theorem b3E:∀ {s r:B},(∀ c ∈ s,c≠32)->(s++32::r).takeWhile (· != 32)=s
 | [],_,_=>rfl
 | x::s,r,hs=>by
  have hx:(x != 32)=true:=by simpa using hs x (by simp)
  rw[List.cons_append,List.takeWhile_cons,hx,if_pos rfl,b3E fun c hc=>hs c (List.mem_cons_of_mem _ hc)]
theorem b8V:∀ i,i < 200->(match (a8F.drop i).takeWhile (· != 32) with | []=>true | w=>b06 w b2T)=true\/a8F[i - 1]?≠some 32:=by decide +kernel
theorem c6O:∀ s ∈ b2T,key s=true:=by decide +kernel
theorem c3U (s:B):key s=c9Q s:=by
 rw[Bool.eq_iff_iff];constructor
 ·intro h
  unfold key at h;rw[Bool.and_eq_true,Bool.and_eq_true,b9h] at h;obtain⟨⟨h0,h1⟩,h2⟩:=h;have hns:=b9W h1;unfold Lib.contains at h2;have h2:=of_decide_eq_true h2;rcases Lib.index_spec a8F ([32]++s++[32]) with ⟨e,_⟩ | ⟨i,_,hi,ho,_⟩
  ·omega
  ·unfold Lib.occAt at ho
   obtain⟨r,hr⟩:=List.isPrefixOf_iff_prefix.1 ho;have h3:(a8F.drop i)[0]?=some 32:=by rw[<- hr];rfl
   have h4:a8F.drop (i+1)=s++32::r:=by
    rw[<- List.tail_drop,<- hr];simp
   rw[List.getElem?_drop] at h3;have hlt:i < a8F.length:=(List.getElem?_eq_some_iff.1 h3).1;have hl:a8F.length<=198:=by decide +kernel
   rcases b8V (i+1) (by omega) with h5 | h5
   ·rw[h4,b3E hns] at h5
    unfold c9Q;cases s with
    | nil=>simp at h0
    | cons c s=>exact h5
   ·exact absurd h3 h5
 ·intro h
  exact c6O s ((Z9 s _).1 h)
end Go.Lx
namespace Go.Ty
section
open Go.Lx
structure Ty where
 kind:Int
 dim:Int
 item:Int
 proto:B
def zeroT:Ty:=⟨0,0,0,[]⟩
def M2 (t:Ty):List Value:=[.int .u8 t.kind,.int .i64 t.dim,.int .u8 t.item,Eng.str t.proto]
def tyV (t:Ty):Value:=.agg (M2 t).toArray
def eqT (t u:Ty):Bool:=(t.kind==u.kind)&&((t.dim==u.dim)&&((t.item==u.item)&&((t.proto==u.proto)&&true)))
theorem eqT_iff (t u:Ty):eqT t u=true↔t=u:=by
 cases t;cases u;simp[eqT]
structure Tok where
 kind:Int
 at_:Int
 text:B
 n:Int
def zeroK:Tok:=⟨0,0,[],0⟩
def C1 (t:Tok):List Value:=[.int .u8 t.kind,.int .i64 t.at_,Eng.str t.text,.int .i32 t.n]
theorem C5 (t:Tok):(C1 t).length=4:=rfl
set_option linter.defProp false in
@[reducible,instance]def iencK_len:=Go.Eng.Ln.mk C5 (by decide)
def Z8 (t:Tok):Value:=.agg (C1 t).toArray
def eqK (t u:Tok):Bool:=(t.kind==u.kind)&&((t.at_==u.at_)&&((t.text==u.text)&&((t.n==u.n)&&true)))
theorem eqK_iff (t u:Tok):eqK t u=true↔t=u:=by
 cases t;cases u;simp[eqK]
structure Pm where
 kind:Int
 word:B
 size:Int
def c3L (p:Pm):List Value:=[.int .u8 p.kind,Eng.str p.word,.int .i64 p.size]
def c6n:B:=[73,78,84]
def b9H:B:=[66,89,84,69]
def c0b:B:=[66,79,79,76]
def prims:List Pm:=[⟨1,c6n,4⟩,⟨2,b9H,1⟩,⟨3,c0b,1⟩]
def wordIn (k:Int):List Pm->B × Int × Bool
 | []=>([],0,false)
 | p::l=>if p.kind==k then (p.word,p.size,true) else wordIn k l
theorem b6d (k:Int) {l:List Pm} {i:Nat} {p:Pm} (hp:l[i]?=some p):wordIn k (l.drop i)=if p.kind==k then (p.word,p.size,true) else wordIn k (l.drop (i+1)):=by
 have h1:i < l.length:=(List.getElem?_eq_some_iff.1 hp).1;rw[List.drop_eq_getElem_cons h1,(List.getElem?_eq_some_iff.1 hp).2];rfl
def wordS (k:Int):B × Int × Bool:=wordIn k prims
def is (k:Int):Bool:=(wordS k).2.2
def prim (k:Int):Bool:=(k==1)||(k==2)||(k==3)
theorem is_eq (k:Int):is k=prim k:=by
 unfold is wordS prims wordIn wordIn wordIn wordIn prim;rw[show((1:Int)==k)=(k==1) from Bool.beq_comm,show((2:Int)==k)=(k==2) from Bool.beq_comm,show((3:Int)==k)=(k==3) from Bool.beq_comm];cases k==1 <;> cases k==2 <;> cases k==3 <;> rfl
def far (t:Ty):Bool:=decide (t.dim < 0)||decide (t.dim > 64)
def timer:Ty:=⟨5,0,0,[]⟩
def may (t:Ty):Bool:=
 if far t then false
 else if is t.kind then (t.item==0)&&(t.proto==[])
 else if t.kind != 4 then eqT t timer
 else if t.item==0 then name t.proto
 else is t.item&&(t.proto==[])
def c5S (t:Ty):Bool:=
 if far t then false
 else if prim t.kind then (t.item==0)&&(t.proto==[])
 else if t.kind==4 then (prim t.item&&(t.proto==[]))||((t.item==0)&&d2U t.proto)
 else eqT t timer
structure Vr where
 tag:B
 a:Option Addr
 n:Nat
 c:Nat
 items:List Int
def Q3 (k:Int):List Value:=[.int .u8 k]
theorem F1 (k:Int):(Q3 k).length=1:=rfl
set_option linter.defProp false in
@[reducible,instance]def iencI_len:=Go.Eng.Ln.mk F1 (by decide)
def encV (v:Vr):List Value:=[Eng.str v.tag,.slice v.a v.n v.c]
theorem F8 (v:Vr):(encV v).length=2:=rfl
set_option linter.defProp false in
@[reducible,instance]def iencV_len:=Go.Eng.Ln.mk F8 (by decide)
structure VOk (m:Eng.View) (h:List Eng.Res) (v:Vr):Prop where
 rd:Eng.Rd m h v.a v.n v.c 1 (Eng.fl Q3 v.items)
theorem VOk.mono {m m':Eng.View} {h h':List Eng.Res} {v:Vr} (o:VOk m h v) (hm:m.le m') (hh:h.Sublist h'):VOk m' h' v:=⟨o.rd.mono hm hh⟩
def prL (cs:Bool) (a:Option Addr) (k c:Nat):List Value:=[.bool cs,.slice a k c]
def prV (cs:Bool) (a:Option Addr) (k c:Nat):Value:=.agg (prL cs a k c).toArray
structure PrOk (m:Eng.View) (h:List Eng.Res) (a:Option Addr) (k c:Nat) (l:List Vr):Prop where
 rd:Eng.Rd m h a k c 2 (Eng.fl encV l)
 ok:∀ v,v ∈ l->VOk m h v
 tag:∀ v,v ∈ l->v.tag.length<=9223372036854775807
theorem PrOk.mono {m m':Eng.View} {h h':List Eng.Res} {a:Option Addr} {k c:Nat} {l:List Vr} (o:PrOk m h a k c l) (hm:m.le m') (hh:h.Sublist h'):PrOk m' h' a k c l:=
 ⟨o.rd.mono hm hh,fun v hv=>(o.ok v hv).mono hm hh,o.tag⟩
def idxF {α:Type} (q:α->Bool):List α->Int->Int
 | [],_=>-1
 | x::l,k=>if q x then k else idxF q l (k+1)
theorem idxF_drop {α:Type} (q:α->Bool) {l:List α} {i:Nat} {x:α} (hx:l[i]?=some x) (k:Int):idxF q (l.drop i) k=if q x then k else idxF q (l.drop (i+1)) (k+1):=by
 have h1:i < l.length:=(List.getElem?_eq_some_iff.1 hx).1;rw[List.drop_eq_getElem_cons h1,(List.getElem?_eq_some_iff.1 hx).2];rfl
theorem idxF_any {α:Type} (q:α->Bool):∀ (l:List α) (k:Int),0<=k->decide (idxF q l k >= 0)=l.any q
 | [],_,_=>rfl
 | x::l,k,hk=>by
  unfold idxF;rw[List.any_cons];cases h:q x
  ·rw[Bool.false_or,<- idxF_any q l (k+1) (by omega)];rfl
  ·simp only[if_true,Bool.true_or];exact decide_eq_true hk
def itemsB (l:List Int) (least:Int):Bool:=decide ((l.length:Int) >= least)&&decide ((l.length:Int)<=8)&&!(l.any fun k=>!is k)
def itemsR (l:List Int) (least:Int):Bool:=(l.all prim)&&(decide ((l.length:Int) >= least)&&decide ((l.length:Int)<=8))
theorem items_eq (l:List Int) (least:Int):itemsB l least=itemsR l least:=by
 unfold itemsB itemsR;have:(!(l.any fun k=>!is k))=l.all prim:=by
  rw[List.any_eq_not_all_not];simp only[Bool.not_not];congr 1
  funext k
  exact is_eq k
 rw[this,Bool.and_comm]
def tagIn (tag:B) (l:List Vr):Bool:=l.any fun w=>w.tag==tag
def badV (pre:List Vr) (v:Vr):Bool:=!name v.tag||!itemsB v.items 0||tagIn v.tag pre
def mayIn (pre:List Vr):List Vr->Bool
 | []=>true
 | v::r=>if badV pre v then false else mayIn (pre++[v]) r
theorem b8Z {l:List Vr} {i:Nat} {v:Vr} (hv:l[i]?=some v):mayIn (l.take i) (l.drop i)=if badV (l.take i) v then false else mayIn (l.take (i+1)) (l.drop (i+1)):=by
 have h1:i < l.length:=(List.getElem?_eq_some_iff.1 hv).1;rw[Eng.take_snoc hv,List.drop_eq_getElem_cons h1,(List.getElem?_eq_some_iff.1 hv).2];rfl
def d2C:Vr:=⟨[],none,0,0,[]⟩
def hdV (l:List Vr):Vr:=l.headD d2C
theorem b9f {l:List Vr} (h:((l.length:Int)==1)=true):l[0]?=some (hdV l):=by
 cases l with
 | nil=>simp at h
 | cons v l=>rfl
def mayPr (cs:Bool) (l:List Vr):Bool:=
 if !cs then ((l.length:Int)==1)&&((hdV l).tag==[])&&itemsB (hdV l).items 1
 else if decide ((l.length:Int) < 1)||decide ((l.length:Int) > 16) then false
 else mayIn [] l
theorem a9N:∀ {l pre:List Vr},mayIn pre l=true->∀ v,v ∈ l->v.items.length<=8
 | [],_,_,v,hv=>by cases hv
 | w::r,pre,h,v,hv=>by
  unfold mayIn at h;cases hb:badV pre w with
  | true=>rw[hb] at h;cases h
  | false=>
   rw[hb] at h;rcases List.mem_cons.1 hv with rfl | hv
   ·unfold badV itemsB at hb
    simp at hb;omega
   ·exact a9N h v hv
theorem mayPr_items {cs:Bool} {l:List Vr} (h:mayPr cs l=true):∀ v,v ∈ l->v.items.length<=8:=by
 unfold mayPr at h;cases cs with
 | false=>
  simp only[Bool.not_false,if_true,Bool.and_eq_true] at h;intro v hv;have h1:=b9f h.1.1;match l,h.1.1,hv with
  | [w],_,hv=>
   have:v=w:=by simpa using hv
   subst this;have h2:=h.2;unfold itemsB hdV at h2;simp at h2;omega
 | true=>
  simp only[Bool.not_true,Bool.false_eq_true,if_false] at h;split at h
  ·cases h
  ·exact a9N h
def eqI (x y:Int):Bool:=x==y
theorem b5a (x y:Int):eqI x y=true↔x=y:=by simp[eqI]
theorem a4v {x y:Int} (h:(x != y)=true):eqI x y=false:=by simpa [eqI] using h
theorem a4x {x y:Int} (h:(x != y)=false):eqI x y=true:=by simpa [eqI] using h
end
end Go.Ty
namespace Go.Lx
section
open Go.Ty
def b5E:B:=[43,45,42,47,92,61,60,62,126,63,33,38,58,59,44,40,41,91,93]
def a4W:B:=[32,47,92,32,92,47,32,62,60,32,60,60,32,62,62,32,60,62,32,60,61,32,62,61,32,58,61,32]
def Q6:B:=[48,49,50,51,52,53,54,55,56,57,65,66,67,68,69,70]
def a8S:B:=[99,110,116,115,39,34,42]
def a3A:B:=[13,10,9,32,39,34,42]
def sym:B->Bool
 | [a]=>Lib.contains b5E [a]
 | [a,b]=>((a.toNat:Int) != 32)&&((b.toNat:Int) != 32)&&Lib.contains a4W ([32]++[a,b]++[32])
 | _=>false
def G3 (t:Tok):Bool:=
 if decide (t.at_ < 0)||decide (t.at_ >= 256) then false
 else if t.kind==1 then (t.n==0)&&name t.text
 else if t.kind==2 then (t.n==0)&&key t.text
 else if t.kind==5 then (t.n==0)&&sym t.text
 else if t.kind==4 then (t.text==[])&&decide (t.n >= 0)&&decide (t.n < 256)
 else (t.kind==3)&&(t.text==[])
def a3G (r:B):Tok × Nat:=
 if key (r.take (run r)) then (⟨2,0,r.take (run r),0⟩,run r) else if decide ((run r:Int) > 32) then (zeroK,0) else (⟨1,0,r.take (run r),0⟩,run r)
def a5V:B->Int->Option Int
 | [],v=>some v
 | c::l,v=>if !dig c.toNat then none else a5V l (10 * v+((c.toNat:Int) - 48))
def b0b (r:B):Tok × Nat:=
 if decide ((run r:Int) > 10) then (zeroK,0) else
 match a5V (r.take (run r)) 0 with
 | none=>(zeroK,0)
 | some v=>if v != IntKind.i32.wrap v then (zeroK,0) else (⟨3,0,[],IntKind.i32.wrap v⟩,run r)
def a5N (c:UInt8):Int:=Lib.indexByte Q6 c
def b0g:B->Int->Option Int
 | [],v=>some v
 | c::l,v=>if decide (a5N c < 0) then none else b0g l (16 * v+a5N c)
def a1V (s:B):Int × Bool:=
 match b0g s 0 with
 | none=>(0,false)
 | some v=>(v,!(s==[]))
def b1m (r:B):Tok × Nat:=
 if decide ((run (r.drop 1):Int) > 8) then (zeroK,0) else
 if !(a1V ((r.drop 1).take (run (r.drop 1)))).2 then (zeroK,0) else
 (⟨3,0,[],IntKind.i32.wrap (a1V ((r.drop 1).take (run (r.drop 1)))).1⟩,1+run (r.drop 1))
def chB (s:B) (i:Nat):Int:=((s.getD i 0).toNat:Int)
def esc (c:UInt8):Int:=Lib.indexByte a8S c
def L1 (s:B):Int × Nat:=
 if (s==[])||decide (chB s 0 < 32)||decide (chB s 0 > 126)||(chB s 0==39) then (0,0)
 else if chB s 0 != 42 then (chB s 0,1)
 else if decide ((s.length:Int) < 2) then (0,0)
 else if decide (esc (s.getD 1 0) >= 0) then (chB a3A (esc (s.getD 1 0)).toNat,2)
 else if (chB s 1 != 35)||decide ((s.length:Int) < 4) then (0,0)
 else if !(a1V ((s.drop 2).take 2)).2 then (0,0)
 else ((a1V ((s.drop 2).take 2)).1,4)
def noQ (s:B) (n:Nat):Bool:=((n:Int)==0)||((n:Int)==s.length)||(chB s n != 39)
def a1o (r:B):Tok × Nat:=
 if noQ (r.drop 1) (L1 (r.drop 1)).2 then (zeroK,0) else (⟨4,0,[],(L1 (r.drop 1)).1⟩,(L1 (r.drop 1)).2+2)
def a6q (r:B):Tok × Nat:=
 if decide (2<=r.length)&&sym (r.take 2) then (⟨5,0,r.take 2,0⟩,2)
 else if decide (1<=r.length)&&sym (r.take 1) then (⟨5,0,r.take 1,0⟩,1)
 else (zeroK,0)
def tok (r:B):Tok × Nat:=
 if ltr (chB r 0) then a3G r else if dig (chB r 0) then b0b r else if chB r 0==35 then b1m r else if chB r 0==39 then a1o r else a6q r
def b09:Nat->B->Nat->Except Nat (List Tok)
 | _,[],_=>.ok []
 | 0,_::_,_=>.ok []
 | k+1,c::r,at_=>
  if (c.toNat:Int)==32 then b09 k r (at_+1)
  else if (tok (c::r)).2==0 then .error at_
  else match b09 k ((c::r).drop (tok (c::r)).2) (at_+(tok (c::r)).2) with
   | .ok l=>.ok ({ (tok (c::r)).1 with at_:=at_ }::l)
   | .error e=>.error e
def lexO (s:B):List Tok × Int × Int:=
 if decide ((s.length:Int) > 256) then ([],0,3)
 else match b09 s.length s 0 with
  | .ok l=>(l,0,0)
  | .error a=>([],a,80)
end
section
open Go.Ty
set_option maxRecDepth 100000
theorem a0A {p:UInt8->Bool} (h:∀ n,n < 256->p (UInt8.ofNat n)=true) (c:UInt8):p c=true:=by
 have:=h c.toNat c.toNat_lt;rwa [UInt8.ofNat_toNat] at this
def a60:List B:=[[43],[45],[42],[47],[92],[47,92],[92,47],[62,60],[60,60],[62,62],[61],[60,62],[60],[62],[60,61],[62,61],[126],[58,61],[63],[33],[38],[58],[59],[44],[40],[41],[91],[93]]
def c8Y (s:B):Bool:=b06 s a60
theorem d05:∀ s ∈ a60,sym s=true:=by decide +kernel
theorem c7X:∀ c:UInt8,(sym [c]==c8Y [c])=true:=a0A (by decide +kernel)
theorem b8f:∀ i,i < 28->(match a4W.drop i with | 32::a::b::32::_=>b06 [a,b] a60||a==32||b==32 | _=>true)=true:=by decide +kernel
theorem b4S (s:B):sym s=c8Y s:=by
 match s with
 | []=>rfl
 | [a]=>simpa using c7X a
 | [a,b]=>
  rw[Bool.eq_iff_iff];constructor
  ·intro h
   unfold sym at h;simp only[Bool.and_eq_true] at h;obtain⟨⟨ha,hb⟩,h2⟩:=h;unfold Lib.contains at h2;have h2:=of_decide_eq_true h2;rcases Lib.index_spec a4W ([32]++[a,b]++[32]) with ⟨e,_⟩ | ⟨i,_,hi,ho,_⟩
   ·omega
   ·unfold Lib.occAt at ho
    obtain⟨r,hr⟩:=List.isPrefixOf_iff_prefix.1 ho;have hlt:i < 28:=by
     have hl:a4W.length=28:=rfl;rcases Nat.lt_or_ge i 28 with h | h
     ·exact h
     ·rw[List.drop_eq_nil_of_le (by omega)] at hr;simp at hr
    have h5:=b8f i hlt;rw[<- hr] at h5;simp only[List.cons_append,List.nil_append,Bool.or_eq_true,beq_iff_eq] at h5;rcases h5 with (h5 | h5) | h5
    ·exact h5
    ·subst h5;simp at ha
    ·subst h5;simp at hb
  ·intro h
   exact d05 _ ((Z9 _ _).1 h)
 | a::b::c::s=>
  have:c8Y (a::b::c::s)=false:=by
   cases h:c8Y (a::b::c::s) with
   | false=>rfl
   | true=>
    have:=(Z9 _ _).1 h;simp[a60] at this
  rw[this];rfl
def b5p (base:Int) (c:UInt8):Int:=
 if (base==16)&&decide ((c.toNat:Int) >= 65)&&decide ((c.toNat:Int)<=70) then (c.toNat:Int) - 65+10 else if dig c.toNat then (c.toNat:Int) - 48 else -1
def b0c (base:Int):B->Int->Option Int
 | [],v=>some v
 | c::l,v=>if decide (b5p base c < 0) then none else b0c base l (base * v+b5p base c)
def c4m (s:B) (base most limit:Int):Int × Bool:=
 if decide ((s.length:Int) < 1)||decide ((s.length:Int) > most) then (0,false) else
 match b0c base s 0 with
 | none=>(0,false)
 | some v=>(v,decide (v < limit))
theorem d0K (c:UInt8):b5p 10 c=if dig c.toNat then (c.toNat:Int) - 48 else -1:=rfl
theorem d11 (c:UInt8):a5N c=b5p 16 c:=by simpa using a0A (p:=fun c=>a5N c==b5p 16 c) (by decide +kernel) c
theorem c6j:∀ (l:B) (v:Int),a5V l v=b0c 10 l v
 | [],v=>rfl
 | c::l,v=>by
  unfold a5V b0c;rw[d0K,c6j l];cases h:dig c.toNat with
  | false=>rfl
  | true=>
   have:decide ((c.toNat:Int) - 48 < 0)=false:=by
    unfold dig at h;simp at h;simp;omega
   simp[this]
theorem a6z:∀ (l:B) (v:Int),b0g l v=b0c 16 l v
 | [],v=>rfl
 | c::l,v=>by
  unfold b0g b0c;rw[d11,a6z l]
theorem a6L (c:UInt8):b5p 16 c < 16:=by simpa using a0A (p:=fun c=>decide (b5p 16 c < 16)) (by decide +kernel) c
theorem a3C {base:Int} (hb:1<=base) (hd:∀ c,b5p base c < base):∀ (l:B) (v r:Int),0<=v->b0c base l v=some r->0<=r/\r < (v+1) * base ^ l.length
 | [],v,r,hv,h=>by cases h;simp;omega
 | c::l,v,r,hv,h=>by
  unfold b0c at h;split at h
  ·cases h
  ·rename_i hc
   have hc0:0<=b5p base c:=by simpa using hc
   have hc1:=hd c;have h0:0<=base * v:=Int.mul_nonneg (by omega) hv;obtain⟨h1,h2⟩:=a3C hb hd l _ r (by omega) h;refine⟨h1,Int.lt_of_lt_of_le h2 ?_⟩;rw[List.length_cons,Int.pow_succ,<- Int.mul_assoc,Int.mul_right_comm];refine Int.mul_le_mul_of_nonneg_right ?_ (Int.pow_nonneg (by omega));rw[Int.add_mul,Int.one_mul,Int.mul_comm v base];omega
theorem c2s (s:B) (n:Nat) (hn:s.length<=n) (lim:Int) (hl:16 ^ n<=lim):a1V s=c4m s 16 n lim:=by
 unfold a1V c4m;rw[a6z];cases s with
 | nil=>rfl
 | cons c s=>
  have e:(decide (((c::s).length:Int) < 1)||decide (((c::s).length:Int) > n))=false:=by simp at hn ⊢;omega
  rw[e];simp only[Bool.false_eq_true,if_false];cases h:b0c 16 (c::s) 0 with
  | none=>rfl
  | some v=>
   have hb:=(a3C (by decide) a6L (c::s) 0 v (by decide) h).2;have hp:(16:Int) ^ (c::s).length<=16 ^ n:=by exact_mod_cast Nat.pow_le_pow_right (by decide) hn
   simp only[Prod.mk.injEq,true_and];rw[show((c::s)==[])=false from rfl];symm;simp;omega
def a9t:List B:=[[42,99],[42,110],[42,116],[42,115],[42,39],[42,34],[42,42]]
def a6G:List Int:=[13,10,9,32,39,34,42]
def b0Z (s:B):List B->List Int->Option Int
 | x::l,v::k=>if s==x then some v else b0Z s l k
 | _,_=>none
def a1y (s:B):Int × Bool:=
 if ((s.length:Int)==1)&&decide (chB s 0 >= 32)&&decide (chB s 0<=126)&&(s != [39])&&(s != [42]) then (chB s 0,true)
 else match b0Z s a9t a6G with
  | some v=>(v,true)
  | none=>if ((s.length:Int)==4)&&(s.take 2==[42,35]) then (IntKind.i32.wrap (c4m (s.drop 2) 16 2 256).1,(c4m (s.drop 2) 16 2 256).2) else (0,false)
def d23 (s:B) (n:Nat):Bool:=(a1y ((s.drop 1).take (n - 2))).2&&(chB s (n - 1)==39)
def b0O (s:B):List Nat->Tok × Nat
 | []=>(zeroK,0)
 | n::ns=>if !decide ((n:Int)<=s.length) then (zeroK,0) else if d23 s n then (⟨4,0,[],(a1y ((s.drop 1).take (n - 2))).1⟩,n) else b0O s ns
def b0i (s:B):Tok × Nat:=b0O s [3,4,5,6]
theorem b5U (a:UInt8):a1y [a]=if (decide ((a.toNat:Int) >= 32)&&decide ((a.toNat:Int)<=126)&&(a != 39)&&(a != 42)) then ((a.toNat:Int),true) else (0,false):=by
 have:=a0A (p:=fun a=>a1y [a]==if (decide ((a.toNat:Int) >= 32)&&decide ((a.toNat:Int)<=126)&&(a != 39)&&(a != 42)) then ((a.toNat:Int),true) else (0,false)) (by decide +kernel) a;simpa using this
theorem c2G (a b:UInt8):b0Z [a,b] a9t a6G=if a==42&&decide (esc b >= 0) then some (chB a3A (esc b).toNat) else none:=by
 by_cases h:a=42
 ·subst h
  have:=a0A (p:=fun b=>b0Z [42,b] a9t a6G==if decide (esc b >= 0) then some (chB a3A (esc b).toNat) else none) (by decide +kernel) b;simpa using this
 ·have h':(a==42)=false:=by simpa using h
  rw[h'];simp[b0Z,a9t,a6G,h]
theorem a2J (a b:UInt8):a1y [a,b]=if a==42&&decide (esc b >= 0) then (chB a3A (esc b).toNat,true) else (0,false):=by
 unfold a1y;rw[show(([a,b].length:Int)==1)=false from rfl,show(([a,b].length:Int)==4)=false from rfl,c2G];simp only[Bool.false_and,Bool.false_eq_true,if_false];cases (a==42&&decide (esc b >= 0)) <;> rfl
theorem b3Q (s:B) (h:s.length≠2):b0Z s a9t a6G=none:=by
 have:∀ x:B,x.length=2->(s==x)=false:=by
  intro x hx;cases e:s==x with
  | false=>rfl
  | true=>exact absurd (by rw[eq_of_beq e];exact hx) h
 simp[b0Z,a9t,a6G,this]
theorem W1 (a b c:UInt8):a1y [a,b,c]=(0,false):=by
 unfold a1y;rw[b3Q _ (by simp)];rfl
theorem wrap_small {v:Int} (h:0<=v/\v < 2147483648):IntKind.i32.wrap v=v:=by
 unfold IntKind.wrap;simp[IntKind.bits,IntKind.signed];omega
theorem a3p (a b c d:UInt8):a1y [a,b,c,d]=if (a==42)&&(b==35) then a1V [c,d] else (0,false):=by
 unfold a1y;rw[b3Q _ (by simp)];rw[show(([a,b,c,d].length:Int)==1)=false from rfl,show(([a,b,c,d].length:Int)==4)=true from rfl,show List.take 2 [a,b,c,d]=[a,b] from rfl,show List.drop 2 [a,b,c,d]=[c,d] from rfl];simp only[Bool.false_and,Bool.false_eq_true,if_false,Bool.true_and];rw[show([a,b]==[42,35])=((a==42)&&(b==35)) by rw[Bool.eq_iff_iff];simp];cases ((a==42)&&(b==35)) with
 | false=>rfl
 | true=>
  simp only[if_true];rw[show c4m [c,d] 16 2 256=a1V [c,d] from (c2s [c,d] 2 (Nat.le_refl _) 256 (by decide)).symm];unfold a1V;rw[a6z];cases h:b0c 16 [c,d] 0 with
  | none=>rfl
  | some v=>
   have hb:=a3C (by decide) a6L [c,d] 0 v (by decide) h;have h2:v < 256:=hb.2;simp only[wrap_small ⟨hb.1,by omega⟩]
theorem c2i (a:UInt8) (s:B) (i:Nat):chB (a::s) (i+1)=chB s i:=rfl
theorem a0Z (a:UInt8) (s:B):chB (a::s) 0=(a.toNat:Int):=rfl
theorem q39 (s : B) (i : Nat) : (chB s i == 39) = (s[i]? == some 39) := by
 unfold chB
 rw [List.getD_eq_getElem?_getD]
 cases s[i]? with
 | none => rfl
 | some b =>
   simp only [Option.getD_some]
   rw [Bool.eq_iff_iff]
   simp
   constructor
   · intro h; exact UInt8.toNat.inj (by have : b.toNat = 39 := by exact_mod_cast h
                                        rw [this]; rfl)
   · rintro rfl; rfl
def b7B:Tok × Nat:=(zeroK,0)
theorem b2V (a:UInt8) (t:B) (h:(decide ((a.toNat:Int) < 32)||decide ((a.toNat:Int) > 126)||(a==39))=true):L1 (a::t)=(0,0):=by
 have:((a::t==[])||decide (chB (a::t) 0 < 32)||decide (chB (a::t) 0 > 126)||(chB (a::t) 0==39))=true:=by
  rw[q39,a0Z];simpa [Bool.or_assoc] using h
 unfold L1;rw[if_pos this]
theorem b1W (a:UInt8) (t:B) (h:(decide ((a.toNat:Int) < 32)||decide ((a.toNat:Int) > 126)||(a==39))=false):((a::t==[])||decide (chB (a::t) 0 < 32)||decide (chB (a::t) 0 > 126)||(chB (a::t) 0==39))=false:=by
 rw[q39,a0Z];simpa [Bool.or_assoc] using h
theorem c6e (a:UInt8):((a.toNat:Int) != 42)=(a != 42):=by
 simpa using a0A (p:=fun a=>((a.toNat:Int) != 42)==(a != 42)) (by decide +kernel) a
theorem c3q (a:UInt8):((a.toNat:Int) != 35)=(a != 35):=by
 simpa using a0A (p:=fun a=>((a.toNat:Int) != 35)==(a != 35)) (by decide +kernel) a
theorem a5R (a:UInt8) (t:B) (h:(decide ((a.toNat:Int) < 32)||decide ((a.toNat:Int) > 126)||(a==39))=false) (hs:(a != 42)=true):L1 (a::t)=((a.toNat:Int),1):=by
 unfold L1;rw[if_neg (by rw[b1W a t h];decide),if_pos (by rw[a0Z,c6e];exact hs)];rfl
theorem a5n (t:B):L1 (42::t)=match t with
 | []=>(0,0)
 | b::u=>if decide (esc b >= 0) then (chB a3A (esc b).toNat,2) else if (b != 35)||decide (u.length < 2) then (0,0) else if !(a1V (u.take 2)).2 then (0,0) else ((a1V (u.take 2)).1,4):=by
 unfold L1;rw[if_neg (by rw[b1W 42 t (by decide)];decide),if_neg (by rw[a0Z];decide)];cases t with
 | nil=>rfl
 | cons b u=>
  rw[if_neg (by simp;omega)];show(if decide (esc b >= 0)=true then _ else if ((chB (b::u) 0 != 35)||_)=true then _ else if (!(a1V (u.take 2)).2)=true then _ else _)=_;rw[a0Z,c3q];have:decide (((42::b::u).length:Int) < 4)=decide (u.length < 2):=by
   congr 1
   simp;omega
  rw[this];rfl
theorem a5q {q:UInt8} {s:B} {v:Int} {n:Nat} (h:L1 s=(v,n)):a1o (q::s)=if noQ s n then b7B else (⟨4,0,[],v,⟩,n+2):=by
 unfold a1o;rw[show List.drop 1 (q::s)=s from rfl,h];rfl
theorem a3U {q:UInt8} {s:B} (h:L1 s=(0,0)):a1o (q::s)=b7B:=by
 rw[a5q h];rfl
theorem b56 (s:B) (n:Nat) (hn:n≠0):noQ s n=!(s[n]?==some 39):=by
 unfold noQ;rw[bne,q39];cases h:s[n]?==some 39 with
 | false=>simp
 | true=>
  have h1:n < s.length:=by
   rcases Nat.lt_or_ge n s.length with h2 | h2
   ·exact h2
   ·rw[List.getElem?_eq_none h2] at h;cases h
  simp;omega
theorem b8m (q:UInt8) (s:B):b0i (q::s) =
 if !decide (2<=s.length) then b7B else if (a1y (s.take 1)).2&&(s[1]?==some 39) then (⟨4,0,[],(a1y (s.take 1)).1⟩,3) else
 if !decide (3<=s.length) then b7B else if (a1y (s.take 2)).2&&(s[2]?==some 39) then (⟨4,0,[],(a1y (s.take 2)).1⟩,4) else
 if !decide (4<=s.length) then b7B else if (a1y (s.take 3)).2&&(s[3]?==some 39) then (⟨4,0,[],(a1y (s.take 3)).1⟩,5) else
 if !decide (5<=s.length) then b7B else if (a1y (s.take 4)).2&&(s[4]?==some 39) then (⟨4,0,[],(a1y (s.take 4)).1⟩,6) else b7B:=by
 unfold b0i b0O b0O b0O b0O b0O d23;simp only[show List.drop 1 (q::s)=s from rfl,show(3 - 2:Nat)=1 from rfl,show(4 - 2:Nat)=2 from rfl,show(5 - 2:Nat)=3 from rfl,show(6 - 2:Nat)=4 from rfl,c2i,q39];have e:∀ n:Nat,decide (((n+1:Nat):Int)<=((q::s).length:Int))=decide (n<=s.length):=fun n=>by congr 1;simp
 rw[show((3:Nat):Int)=((2+1:Nat):Int) from rfl,show((4:Nat):Int)=((3+1:Nat):Int) from rfl,show((5:Nat):Int)=((4+1:Nat):Int) from rfl,show((6:Nat):Int)=((5+1:Nat):Int) from rfl,e,e,e,e];rfl
theorem b6U (q:UInt8) (s:B):b0i (q::s) =
 if (a1y (s.take 1)).2&&(s[1]?==some 39) then (⟨4,0,[],(a1y (s.take 1)).1⟩,3) else
 if (a1y (s.take 2)).2&&(s[2]?==some 39) then (⟨4,0,[],(a1y (s.take 2)).1⟩,4) else
 if (a1y (s.take 3)).2&&(s[3]?==some 39) then (⟨4,0,[],(a1y (s.take 3)).1⟩,5) else
 if (a1y (s.take 4)).2&&(s[4]?==some 39) then (⟨4,0,[],(a1y (s.take 4)).1⟩,6) else b7B:=by
 rw[b8m];match s with
 | []=>simp
 | [a]=>simp
 | [a,b]=>simp
 | [a,b,c]=>simp
 | [a,b,c,d]=>simp
 | a::b::c::d::e::s=>simp
theorem d1A (q:UInt8) (s:B):b0i (q::s)=a1o (q::s):=by
 rw[b6U];match s with
 | []=>rfl
 | a::t=>
  cases hb:(decide ((a.toNat:Int) < 32)||decide ((a.toNat:Int) > 126)||(a==39)) with
  | true=>
   have hs:(a==42)=false:=by
    cases hs:a==42 with
    | false=>rfl
    | true=>rw[eq_of_beq hs] at hb;revert hb;decide
   have e1:a1y [a]=(0,false):=by
    rw[b5U];have:(decide ((a.toNat:Int) >= 32)&&decide ((a.toNat:Int)<=126)&&(a != 39)&&(a != 42))=false:=by
     simp only[Bool.or_eq_true,decide_eq_true_eq] at hb;rcases hb with (hb | hb) | hb
     ·rw[show decide ((a.toNat:Int) >= 32)=false by simp;omega];rfl
     ·rw[show decide ((a.toNat:Int)<=126)=false by simp;omega,Bool.and_false];rfl
     ·rw[bne,hb];simp
    rw[this];rfl
   rw[a3U (b2V a t hb)];match t with
   | []=>simp[e1]
   | [b]=>simp[e1,a2J,hs]
   | [b,c]=>simp[e1,a2J,W1,hs]
   | b::c::d::t=>simp[e1,a2J,W1,a3p,hs]
  | false=>
   cases hs:a != 42 with
   | true=>
    have hs':(a==42)=false:=by simpa [bne] using hs
    have e1:a1y [a]=((a.toNat:Int),true):=by
     rw[b5U];have:(decide ((a.toNat:Int) >= 32)&&decide ((a.toNat:Int)<=126)&&(a != 39)&&(a != 42))=true:=by
      simp only[Bool.or_eq_false_iff,decide_eq_false_iff_not] at hb;rw[hs,bne,hb.2];simp;omega
     rw[this];rfl
    rw[a5q (a5R a t hb hs),b56 _ _ (by decide)];match t with
    | []=>simp[e1]
    | [b]=>simp[e1,a2J,hs']
    | [b,c]=>simp[e1,a2J,W1,hs']
    | b::c::d::t=>simp[e1,a2J,W1,a3p,hs']
   | false=>
    have e:a=42:=by simpa using hs
    subst e;have e1:a1y [42]=(0,false):=by decide
    match t with
    | []=>rfl
    | b::u=>
     cases hE:decide (esc b >= 0) with
     | true=>
      have hC:L1 (42::b::u)=(chB a3A (esc b).toNat,2):=by rw[a5n];simp only[hE,if_true]
      rw[a5q hC,b56 _ _ (by decide)];have h35:(b==35)=false:=by
       cases h:b==35 with
       | false=>rfl
       | true=>rw[eq_of_beq h] at hE;revert hE;decide
      have e2:a1y [42,b]=(chB a3A (esc b).toNat,true):=by rw[a2J,hE];rfl
      match u with
      | []=>simp[e1,e2]
      | [c]=>simp[e1,e2,W1]
      | c::d::u=>simp[e1,e2,W1,a3p,h35]
     | false=>
      have e2:a1y [42,b]=(0,false):=by rw[a2J,hE];rfl
      have hC:L1 (42::b::u)=if (b != 35)||decide (u.length < 2) then (0,0) else if !(a1V (u.take 2)).2 then (0,0) else ((a1V (u.take 2)).1,4):=by
       rw[a5n];simp only[hE,Bool.false_eq_true,if_false]
      match u with
      | []=>rw[a3U (hC.trans (by simp))];simp[e1,e2]
      | [c]=>rw[a3U (hC.trans (by simp))];simp[e1,e2,W1]
      | c::d::u=>
       cases h35:b==35 with
       | false=>
        rw[a3U (hC.trans (by simp[bne,h35]))];simp[e1,e2,W1,a3p,h35]
       | true=>
        have h35':(b != 35)=false:=by rw[bne,h35];rfl
        cases hx:(a1V [c,d]).2 with
        | false=>
         rw[a3U (hC.trans (by simp[h35',hx]))];simp[e1,e2,W1,a3p,h35,hx]
        | true=>
         rw[a5q (v:=(a1V [c,d]).1) (n:=4) (hC.trans (by simp[h35',hx])),b56 _ _ (by decide)];simp[e1,e2,W1,a3p,h35,hx]
theorem b6T:∀ (l:B),run (l.take (run l))=run l
 | []=>rfl
 | c::l=>by
  have e:run (c::l)=if wch c then run l+1 else 0:=rfl
  cases hw:wch c with
  | false=>rw[e,hw];rfl
  | true=>
   rw[e,hw];simp only[if_true,List.take_succ_cons];show(if wch c then run (l.take (run l))+1 else 0)=_;rw[hw,b6T l];rfl
theorem b5e (l:B):(l.take (run l)).length=run l:=by rw[List.length_take];have:=a7K l;omega
theorem c6U {c:UInt8} (h:ltr c.toNat=true):wch c=true:=by unfold wch;rw[h];rfl
theorem c8k {c:UInt8} (h:dig c.toNat=true):wch c=true:=by unfold wch;rw[h];simp
theorem b7x {c:UInt8} {l:B} (h:wch c=true):run (c::l)=1+run l:=by
 show(if wch c then run l+1 else 0)=_;rw[h,Nat.add_comm];rfl
theorem c1w {c:UInt8} {l:B} (h:ltr c.toNat=true) (hk:key ((c::l).take (run (c::l)))=false):name ((c::l).take (run (c::l)))=!decide ((run (c::l):Int) > 32):=by
 have e1:=b6T (c::l);have e2:=b5e (c::l);have e3:(c::l).take (run (c::l))=c::l.take (run l):=by rw[b7x (c6U h),Nat.add_comm];rfl
 unfold name;rw[e1,e2,hk,e3];simp only[h];simp;rw[<- decide_not];congr 1
 simp
end
end Go.Lx
section
namespace Go.Xp
open Go.Eng Go
theorem d3z {n:Int} (h:-2147483648<=n/\n<=2147483647):(a8U .i32 n 8=0)↔(0<=n/\n<=255):=by
 unfold a8U;rw[Int.fdiv_eq_ediv_of_nonneg _ (by decide)];simp[IntKind.bits];omega
theorem d3s {n:Int} (h:-2147483648<=n/\n<=2147483647):(a8U .i32 n 1=0)↔(0<=n/\n<=1):=by
 unfold a8U;rw[Int.fdiv_eq_ediv_of_nonneg _ (by decide)];simp[IntKind.bits];omega
theorem c2R {o:Int} (h:23<=o/\o<=255):IntKind.u8.wrap (o - 23)=o - 23:=by
 unfold IntKind.wrap;simp[IntKind.bits,IntKind.signed];omega
end Go.Xp
namespace Go.Xp
open Go.Eng Go
open Go.Ty (Tok C1)
def D0 (s:B):Tok:=⟨5,0,s,0⟩
def a2S (s:B):Tok:=⟨2,0,s,0⟩
def D3 (s:B):Tok:=⟨1,0,s,0⟩
def b0h (n:Int):Tok:=⟨3,0,[],n⟩
def a4P (n:Int):Tok:=⟨4,0,[],n⟩
def D4 (s:B):Tok:=if Go.Lx.key s then a2S s else D0 s
def M3 (o:Int):Tok:=D4 (V0 o).1
def par (k:Int):Bool:=(((k==6)||(k==7))||(k==8))||(k==9)
def O3 (p:Bool × List Tok):List Tok:=if p.1 then D0 [40]::(p.2++[D0 [41]]) else p.2
def wr (k o t n:Int) (s:B) (ws:List (Bool × List Tok)):List Tok:=
 if k=1 then [b0h n] else if k=2 then [a4P n] else if k=3 then (if n=0 then [D4 [70,65,76,83,69]] else [D4 [84,82,85,69]])
 else if k=4 then [D3 s] else if k=9 then [D4 [83,73,90,69],D3 s] else if k=5 then D3 s::D0 [91]::((ws.getD 0 (false,[])).2++[D0 [93]])
 else if k=6 then M3 o::O3 (ws.getD 0 (false,[])) else if k=8 then D4 (N3 t)::O3 (ws.getD 0 (false,[]))
 else O3 (ws.getD 0 (false,[]))++M3 o::O3 (ws.getD 1 (false,[]))
mutual
def B0:Ex->List Tok
 | .mk k o t n s _ _ l=>wr k o t n s (R8 l)
def R8:List Ex->List (Bool × List Tok)
 | []=>[]
 | x::r=>(par x.k,B0 x)::R8 r
end
def D6 (e:Ex):List Tok:=O3 (par e.k,B0 e)
theorem D5 (e:Ex):B0 e=wr e.k e.o e.t e.n e.s (R8 e.l):=by cases e;rfl
inductive Fine:Ex->Prop
 | mk {e:Ex} (h1:(F2 e).2=true) (h2:(e.l.length:Int)=(F2 e).1) (h3:∀ x ∈ e.l,Fine x):Fine e
theorem Fine.ok {e:Ex} (g:Fine e):(F2 e).2=true:=by cases g;assumption
theorem Fine.num {e:Ex} (g:Fine e):(e.l.length:Int)=(F2 e).1:=by cases g;assumption
theorem Fine.part {e x:Ex} (g:Fine e) (hx:x ∈ e.l):Fine x:=by cases g with | mk h1 h2 h3=>exact h3 x hx
theorem b8s (e:Ex):∀ (deep left q:Int),S6 deep left e=some q->Fine e/\(a7T e:Int)=left - q:=by
 refine Ex.ind (p:=fun e=>∀ (deep left q:Int),S6 deep left e=some q->Fine e/\(a7T e:Int)=left - q) (fun e ih deep left q hq=>?_) e;rw[a3v] at hq;split at hq
 ·cases hq
 ·rename_i hh
  have hb:=b0m (by simpa using hh);have key:∀ (l:List Ex),(∀ x ∈ l,x ∈ e.l)->∀ z,a0T (deep+1) z l=some q->(∀ x ∈ l,Fine x)/\(a5O l:Int)=z - q:=by
   intro l;induction l with
   | nil=>
    intro _ z h;cases h;exact⟨fun x hx=>(List.not_mem_nil hx).elim,by simp[a5O]⟩
   | cons x r ihr=>
    intro hm z h;unfold a0T at h;split at h
    ·rename_i p hp
     have h1:=ih x (hm x (by simp)) _ _ _ hp;have h2:=ihr (fun y hy=>hm y (by simp[hy])) p h;refine⟨fun y hy=>?_,by unfold a5O;omega⟩;rcases List.mem_cons.1 hy with rfl | hy
     ·exact h1.1
     ·exact h2.1 y hy
    ·cases h
  have hk:=key e.l (fun _ h=>h) (left - 1) hq;have hc:=a1m e;exact⟨.mk hb.1.1 hb.2.2 hk.1,by omega⟩
theorem a2C {e:Ex} (h:E9 e=true):Fine e/\a7T e<=256:=by
 obtain⟨q,hq⟩:=Option.isSome_iff_exists.1 h;have h1:=b8s e 1 256 q hq;have h2:=b3r e 1 256 q (by decide) hq;exact⟨h1.1,by omega⟩
theorem a2q {e:Ex} (g:Fine e):e.k=1\/e.k=2\/e.k=3\/e.k=4\/e.k=9\/e.k=5\/e.k=6\/e.k=7\/e.k=8:=by
 have h:=g.ok;unfold F2 at h;by_cases h1:e.k=1
 ·simp[h1]
 by_cases h2:e.k=2
 ·simp[h2]
 by_cases h3:e.k=3
 ·simp[h3]
 by_cases h4:e.k=4
 ·simp[h4]
 by_cases h9:e.k=9
 ·simp[h9]
 by_cases h5:e.k=5
 ·simp[h5]
 by_cases h6:e.k=6
 ·simp[h6]
 by_cases h7:e.k=7
 ·simp[h7]
 by_cases h8:e.k=8
 ·simp[h8]
 simp[h1,h2,h3,h4,h5,h6,h7,h8,h9] at h
theorem a9B {e:Ex} (hn:-2147483648<=e.n/\e.n<=2147483647) (g:Fine e) (h:e.k=3):e.n=0\/e.n=1:=by
 have h1:=g.ok;unfold F2 at h1;simp only[h] at h1;by_cases hb:a8U .i32 e.n 1=0
 ·have:=(d3s hn).1 hb
  omega
 ·simp[hb] at h1
theorem X4 {e:Ex} (g:Fine e) (h:e.k=5\/e.k=6\/e.k=8):∃ x,e.l=[x]:=by
 have h1:=g.ok;have h2:=g.num;have:(F2 e).1=1:=by
  unfold F2 at h1 ⊢;rcases h with h | h | h <;> simp only[h] at h1 ⊢ <;> (revert h1;simp) <;> split <;> simp
 rw[this] at h2;match hl:e.l with
 | [x]=>exact⟨x,rfl⟩
 | []=>rw[hl] at h2;simp at h2
 | _::_::_=>rw[hl] at h2;simp at h2;omega
theorem a6M {e:Ex} (g:Fine e) (h:e.k=7):∃ x y,e.l=[x,y]:=by
 have h1:=g.ok;have h2:=g.num;have:(F2 e).1=2:=by
  unfold F2 at h1 ⊢;simp only[h] at h1 ⊢;revert h1
  simp;split <;> simp
 rw[this] at h2;match hl:e.l with
 | [x,y]=>exact⟨x,y,rfl⟩
 | []=>rw[hl] at h2;simp at h2
 | [_]=>rw[hl] at h2;simp at h2
 | _::_::_::_=>rw[hl] at h2;simp at h2;omega
theorem a5c (p:Bool × List Tok):(O3 p).length<=p.2.length+2:=by
 unfold O3;split <;> simp
theorem a7g (e:Ex) (g:Fine e):(B0 e).length<=5 * a7T e - 2:=by
 revert g
 refine Ex.ind (p:=fun e=>Fine e->(B0 e).length<=5 * a7T e - 2) (fun e ih g=>?_) e;rw[D5];have hc:=a1m e;rcases a2q g with h | h | h | h | h | h | h | h | h
 ·simp[wr,h];omega
 ·simp[wr,h];omega
 ·simp only[wr,h]
  simp;split <;> simp <;> omega
 ·simp[wr,h];omega
 ·simp[wr,h];omega
 ·obtain⟨x,hx⟩:=X4 g (.inl h)
  have:=ih x (by simp[hx]) (g.part (by simp[hx]));have hcx:=a1m x;rw[hx] at hc;simp[a5O] at hc;simp[wr,h,hx,R8];omega
 ·obtain⟨x,hx⟩:=X4 g (.inr (.inl h))
  have:=ih x (by simp[hx]) (g.part (by simp[hx]));have h2:=a5c (par x.k,B0 x);have hcx:=a1m x;rw[hx] at hc;simp[a5O] at hc;simp[wr,h,hx,R8] at h2 ⊢;omega
 ·obtain⟨x,y,hx⟩:=a6M g h
  have h1:=ih x (by simp[hx]) (g.part (by simp[hx]));have h2:=ih y (by simp[hx]) (g.part (by simp[hx]));have h3:=a5c (par x.k,B0 x);have h4:=a5c (par y.k,B0 y);have hcx:=a1m x;have hcy:=a1m y;rw[hx] at hc;simp[a5O] at hc;simp[wr,h,hx,R8] at h3 h4 ⊢;omega
 ·obtain⟨x,hx⟩:=X4 g (.inr (.inr h))
  have:=ih x (by simp[hx]) (g.part (by simp[hx]));have h2:=a5c (par x.k,B0 x);have hcx:=a1m x;rw[hx] at hc;simp[a5O] at hc;simp[wr,h,hx,R8] at h2 ⊢;omega
end Go.Xp
namespace Go.Xp
open Go.Eng Go
open Go.Ty (Tok C1)
open Go.Lx (G3)
instance:DecidableEq Tok:=fun t u=>decidable_of_iff (Go.Ty.eqK t u=true) (Go.Ty.eqK_iff t u)
def zeroT:Tok:=⟨0,0,[],0⟩
def C6:List Tok->Tok
 | []=>zeroT
 | t::_=>if G3 t then { t with at_:=0 } else zeroT
abbrev a0y:=Except Int (Ex × List Tok)
def sx (k o t n:Int) (s:B) (l:List Ex):Ex:=.mk k o t n s none 0 l
mutual
def B2:Ex->Ex
 | .mk k o t n s _ _ l=>.mk k o t n s none 0 (b4K l)
def b4K:List Ex->List Ex
 | []=>[]
 | x::r=>B2 x::b4K r
end
def opF (t:Tok):Nat->Nat->Nat
 | 0,_=>0
 | n+1,o=>if t=M3 o then o else opF t n (o+1)
def a0O (t:Tok):Nat:=if t=D4 (N3 1) then 1 else if t=D4 (N3 2) then 2 else if t=D4 (N3 3) then 3 else 0
def R1 (ins:B->B->List Tok->a0y) (ts:List Tok):a0y:=
 let t:=C6 ts
 if t.kind=3 then .ok (sx 1 0 0 t.n [] [],ts.tail) else if t.kind=4 then .ok (sx 2 0 0 t.n [] [],ts.tail)
 else if t=D4 [70,65,76,83,69] then .ok (sx 3 0 0 0 [] [],ts.tail) else if t=D4 [84,82,85,69] then .ok (sx 3 0 0 1 [] [],ts.tail)
 else if t.kind=1 then (if C6 ts.tail=D0 [91] then (match ins [91] [93] ts.tail with
  | .ok (x,r)=>.ok (sx 5 0 0 0 t.text [x],r)
  | .error e=>.error e) else .ok (sx 4 0 0 0 t.text [],ts.tail))
 else if t=D0 [40] then ins [40] [41] ts else .error 100
def unQ (mk:Ex->Ex) (p:a0y):a0y:=match p with
 | .ok (x,r)=>.ok (mk x,r)
 | .error e=>.error e
def a1e (ins:B->B->List Tok->a0y) (ts:List Tok):a0y:=
 let t:=C6 ts
 if t=D4 [83,73,90,69] then (if (C6 ts.tail).kind=1 then .ok (sx 9 0 0 0 (C6 ts.tail).text [],ts.tail.tail) else .error 100)
 else if a0O t≠0 then unQ (fun x=>sx 8 0 (a0O t) 0 [] [x]) (R1 ins ts.tail)
 else if opF t 4 23≠0 then unQ (fun x=>sx 6 (opF t 4 23) 0 0 [] [x]) (R1 ins ts.tail)
 else match R1 ins ts with
  | .error e=>.error e
  | .ok (a,r)=>if opF (C6 r) 22 1≠0 then unQ (fun b=>sx 7 (opF (C6 r) 22 1) 0 0 [] [a,b]) (R1 ins r.tail) else .ok (a,r)
def X3:Nat->B->B->List Tok->a0y
 | 0,_,_,_=>.error 3
 | f+1,o,s,ts=>if C6 ts=D0 o then (match a1e (X3 f) ts.tail with
  | .error e=>.error e
  | .ok (x,r)=>if C6 r=D0 s then .ok (x,r.tail) else .error 100) else .error 100
def a5M (ts:List Tok):a0y:=a1e (X3 32) ts
def K7 (ts:List Tok):Except Int (Ex × Nat):=match a5M ts with
 | .error e=>.error e
 | .ok (x,r)=>if E9 x then .ok (x,ts.length - r.length) else .error 3
theorem a3k (t:Tok) (r:List Tok):C6 (t::r)=if G3 t then { t with at_:=0 } else zeroT:=rfl
theorem c1X {ts:List Tok} (h:(C6 ts).kind≠0):ts≠[]:=by
 rintro rfl;exact h rfl
theorem c1K (l:List Ex):b4K l=l.map B2:=by
 induction l with
 | nil=>rfl
 | cons x r ih=>rw[b4K,ih];rfl
theorem c8y (e:Ex):(B2 e).k=e.k:=by cases e;rfl
theorem a0M (s:B):(D4 s).kind=2\/(D4 s).kind=5:=by
 unfold D4;split
 ·exact .inl rfl
 ·exact .inr rfl
theorem c8a {k:Nat} {l:List Tok} (h:l.drop k≠[]):k < l.length:=by
 rcases Nat.lt_or_ge k l.length with h1 | h1
 ·exact h1
 ·exact absurd (List.drop_eq_nil_of_le h1) h
theorem b2t {t:Tok}:∀ {n o:Nat},opF t n o≠0->t.kind≠0
 | 0,_,h=>absurd rfl h
 | n+1,o,h=>by
  unfold opF at h;split at h
  ·rename_i q
   rw[q];unfold M3;rcases a0M (V0 o).1 with h | h <;> rw[h] <;> decide
  ·exact b2t h
theorem b7L (t:Tok):∀ (n o:Nat),opF t n o≠0->o<=opF t n o/\opF t n o < o+n
 | 0,_,h=>absurd rfl h
 | n+1,o,h=>by
  unfold opF at h ⊢;split at h
  ·rename_i q
   rw[if_pos q];omega
  ·rename_i q
   rw[if_neg q];have:=b7L t n (o+1) h;omega
end Go.Xp
namespace Go.Xp
open Go.Eng Go
open Go.Ty (Tok C1)
theorem a1b (e:Ex):B2 e=.mk e.k e.o e.t e.n e.s none 0 (e.l.map B2):=by
 cases e with
 | mk k o t n s a c l=>
  rw[B2,c1K];rfl
theorem b7t (e:Ex):F2 (B2 e)=F2 e:=by rw[a1b];rfl
theorem c0I (e:Ex):(B2 e).l.length=e.l.length:=by rw[a1b];exact List.length_map _
theorem b8R (deep left:Int) (e:Ex):a8h deep left (B2 e)=a8h deep left e:=by
 unfold a8h;rw[b7t,c0I]
theorem b9Q (e:Ex):(B2 e).l=e.l.map B2:=by rw[a1b];rfl
theorem b7y (e:Ex):∀ (deep left:Int),S6 deep left (B2 e)=S6 deep left e:=by
 refine Ex.ind (p:=fun e=>∀ (deep left:Int),S6 deep left (B2 e)=S6 deep left e) (fun e ih deep left=>?_) e;rw[a3v,a3v,b8R,b9Q];have key:∀ (l:List Ex),(∀ x ∈ l,x ∈ e.l)->∀ z,a0T (deep+1) z (l.map B2)=a0T (deep+1) z l:=by
  intro l;induction l with
  | nil=>intro _ z;rfl
  | cons x r ihr=>
   intro hm z;rw[List.map_cons];unfold a0T;rw[ih x (hm x (by simp))];split
   ·exact ihr (fun y hy=>hm y (by simp[hy])) _
   ·rfl
 rw[key e.l fun _ h=>h]
theorem P8 (e:Ex):E9 (B2 e)=E9 e:=by unfold E9;rw[b7y]
theorem b5D (e:Ex):B0 (B2 e)=B0 e:=by
 refine Ex.ind (p:=fun e=>B0 (B2 e)=B0 e) (fun e ih=>?_) e;rw[D5,D5,b9Q,a1b];have key:∀ (l:List Ex),(∀ x ∈ l,x ∈ e.l)->R8 (l.map B2)=R8 l:=by
  intro l;induction l with
  | nil=>intro _;rfl
  | cons x r ihr=>
   intro hm;rw[List.map_cons];unfold R8;rw[ih x (hm x (by simp)),c8y,ihr fun y hy=>hm y (by simp[hy])]
 rw[key e.l fun _ h=>h];rfl
theorem Y4 (x:Ex):∀ y:Ex,(C7 x y=true↔B2 x=B2 y):=by
 refine Ex.ind (p:=fun x=>∀ y:Ex,(C7 x y=true↔B2 x=B2 y)) (fun x ih y=>?_) x;have key:∀ (l q:List Ex),(∀ x' ∈ l,x' ∈ x.l)->l.length=q.length->(a2G l q=true↔l.map B2=q.map B2):=by
  intro l;induction l with
  | nil=>
   intro q _ hl;match q with
   | []=>simp[a2G]
   | _::_=>simp at hl
  | cons u r ihr=>
   intro q hm hl;match q with
   | []=>simp at hl
   | v::w=>
    have h1:=ih u (hm u (by simp)) v;have h2:=ihr w (fun z hz=>hm z (by simp[hz])) (by simpa using hl);unfold a2G;rw[Bool.and_eq_true,h1,h2,List.map_cons,List.map_cons,List.cons.injEq]
 rw[b1R,a1b x,a1b y];constructor
 ·intro h
  rw[Bool.and_eq_true] at h;obtain⟨hb,hl⟩:=h;unfold b2D at hb;simp only[Bool.not_eq_true',Bool.or_eq_false_iff,bne_eq_false_iff_eq] at hb;obtain⟨⟨⟨⟨⟨h1,h2⟩,h3⟩,h4⟩,h5⟩,h6⟩:=hb;have h7:=(key x.l y.l (fun _ h=>h) (by omega)).1 hl;rw[h1,h2,h3,h4,h5,h7]
 ·intro h
  injection h with h1 h2 h3 h4 h5 h6 h7 h8
  have h9:x.l.length=y.l.length:=by simpa using congrArg List.length h8
  have h10:=(key x.l y.l (fun _ h=>h) h9).2 h8;rw[h10];unfold b2D;rw[h1,h2,h3,h4,h5,h9];simp
def A0:Ex:=.mk 0 0 0 0 [] none 0 []
def b0H (ts:List Tok):Ex:=match K7 ts with
 | .ok (x,_)=>x
 | .error _=>A0
def a2b (ts:List Tok):Nat:=match K7 ts with
 | .ok (_,k)=>k
 | .error _=>0
def a7N (ts:List Tok):Int:=match K7 ts with
 | .ok _=>0
 | .error e=>e
def B8 (e:Ex):List Tok:=if E9 e then B0 e else []
def b4R (e:Ex):Int:=if E9 e then 0 else 2
theorem a0K (e:Ex):B8 (B2 e)=B8 e:=by unfold B8;rw[P8,b5D]
theorem a1n (s:B):(D4 s).at_=0:=by unfold D4;split <;> rfl
theorem b9u {p:Bool × List Tok} (h:∀ t ∈ p.2,t.at_=0):∀ t ∈ O3 p,t.at_=0:=by
 unfold O3;split
 ·intro t ht
  rcases List.mem_cons.1 ht with rfl | ht
  ·rfl
  ·rcases List.mem_append.1 ht with ht | ht
   ·exact h t ht
   ·rw[List.mem_singleton] at ht
    subst ht;rfl
 ·exact h
set_option maxRecDepth 100000 in
theorem d1k {k o t n:Int} {s:B} {ws:List (Bool × List Tok)} (h:∀ i,∀ u ∈ (ws.getD i (false,[])).2,u.at_=0):∀ u ∈ wr k o t n s ws,u.at_=0:=by
 have h0:=b9u (h 0);have h1:=b9u (h 1);intro u hu;unfold wr at hu;split at hu
 ·simp at hu;subst hu;rfl
 split at hu
 ·simp at hu;subst hu;rfl
 split at hu
 ·split at hu <;> (rw[List.mem_singleton] at hu;subst hu;exact a1n _)
 split at hu
 ·simp at hu;subst hu;rfl
 split at hu
 ·rcases List.mem_cons.1 hu with rfl | hu
  ·exact a1n _
  ·rw[List.mem_singleton] at hu
   subst hu;rfl
 split at hu
 ·rcases List.mem_cons.1 hu with rfl | hu
  ·rfl
  ·rcases List.mem_cons.1 hu with rfl | hu
   ·rfl
   ·rcases List.mem_append.1 hu with hu | hu
    ·exact h 0 u hu
    ·rw[List.mem_singleton] at hu
     subst hu;rfl
 split at hu
 ·rcases List.mem_cons.1 hu with rfl | hu
  ·exact a1n _
  ·exact h0 u hu
 split at hu
 ·rcases List.mem_cons.1 hu with rfl | hu
  ·exact a1n _
  ·exact h0 u hu
 ·rcases List.mem_append.1 hu with hu | hu
  ·exact h0 u hu
  ·rcases List.mem_cons.1 hu with rfl | hu
   ·exact a1n _
   ·exact h1 u hu
theorem b8h (l:List Ex) (i:Nat):((R8 l).getD i (false,[])).2=match l[i]? with | some x=>B0 x | none=>[]:=by
 induction l generalizing i with
 | nil=>rfl
 | cons x r ih=>
  cases i with
  | zero=>rfl
  | succ i=>exact ih i
theorem c3g (e:Ex):∀ u ∈ B0 e,u.at_=0:=by
 refine Ex.ind (p:=fun e=>∀ u ∈ B0 e,u.at_=0) (fun e ih=>?_) e;rw[D5];refine d1k fun i=>?_
 rw[b8h];cases hx:e.l[i]? with
 | none=>exact fun u hu=>(List.not_mem_nil hu).elim
 | some x=>exact ih x (List.mem_of_getElem? hx)
theorem d1e (e:Ex):∀ u ∈ B8 e,u.at_=0:=by
 unfold B8;split
 ·exact c3g e
 ·exact fun u hu=>(List.not_mem_nil hu).elim
end Go.Xp
end
section
namespace Go.Pc
open Go.Eng Go.Xp Go
open Go.Ty (Ty Vr M2 encV PrOk)
open Go.Lx (encB)
abbrev B:=List UInt8
structure Sli (α:Type) where
 a:Option Addr
 c:Nat
 l:List α
def Sli.v {α:Type} (s:Sli α):Value:=.slice s.a s.l.length s.c
def A7 {α:Type}:Sli α:=⟨none,0,[]⟩
structure Rp where
 name:B
 base:Ex
 count:Ex
structure Fo where
 val:Bool
 ty:Ty
 name:B
mutual
inductive Pr where
 | mk (k:Int) (name:B) (ch:Ex) (tg ex:Sli Ex) (rep:Rp) (ga:Option Addr) (gc:Nat) (gl:List Gu) (la:Option Addr) (lc:Nat) (ll:List Pr) (pn:Sli Int) (sp:Sp)
inductive Gu where
 | mk (k:Int) (name:B) (cond ch:Ex) (tg vl:Sli Ex) (time:Ex) (ba:Option Addr) (bc:Nat) (bl:List Pr)
inductive Sp where
 | mk (k:Int) (ty:Ty) (names:Sli B) (e:Ex) (cs:Bool) (vs:Sli Vr) (fs:Sli Fo) (ba:Option Addr) (bc:Nat) (bl:List Pr)
end
namespace Sp
def k:Sp->Int | mk k _ _ _ _ _ _ _ _ _=>k
def ty:Sp->Ty | mk _ t _ _ _ _ _ _ _ _=>t
def names:Sp->Sli B | mk _ _ n _ _ _ _ _ _ _=>n
def e:Sp->Ex | mk _ _ _ e _ _ _ _ _ _=>e
def cs:Sp->Bool | mk _ _ _ _ c _ _ _ _ _=>c
def vs:Sp->Sli Vr | mk _ _ _ _ _ v _ _ _ _=>v
def fs:Sp->Sli Fo | mk _ _ _ _ _ _ f _ _ _=>f
def ba:Sp->Option Addr | mk _ _ _ _ _ _ _ a _ _=>a
def bc:Sp->Nat | mk _ _ _ _ _ _ _ _ c _=>c
def bl:Sp->List Pr | mk _ _ _ _ _ _ _ _ _ l=>l
end Sp
namespace Gu
def k:Gu->Int | mk k _ _ _ _ _ _ _ _ _=>k
def name:Gu->B | mk _ n _ _ _ _ _ _ _ _=>n
def cond:Gu->Ex | mk _ _ e _ _ _ _ _ _ _=>e
def ch:Gu->Ex | mk _ _ _ e _ _ _ _ _ _=>e
def tg:Gu->Sli Ex | mk _ _ _ _ t _ _ _ _ _=>t
def vl:Gu->Sli Ex | mk _ _ _ _ _ v _ _ _ _=>v
def time:Gu->Ex | mk _ _ _ _ _ _ e _ _ _=>e
def ba:Gu->Option Addr | mk _ _ _ _ _ _ _ a _ _=>a
def bc:Gu->Nat | mk _ _ _ _ _ _ _ _ c _=>c
def bl:Gu->List Pr | mk _ _ _ _ _ _ _ _ _ l=>l
end Gu
namespace Pr
def k:Pr->Int | mk k _ _ _ _ _ _ _ _ _ _ _ _ _=>k
def name:Pr->B | mk _ n _ _ _ _ _ _ _ _ _ _ _ _=>n
def ch:Pr->Ex | mk _ _ e _ _ _ _ _ _ _ _ _ _ _=>e
def tg:Pr->Sli Ex | mk _ _ _ t _ _ _ _ _ _ _ _ _ _=>t
def ex:Pr->Sli Ex | mk _ _ _ _ e _ _ _ _ _ _ _ _ _=>e
def rep:Pr->Rp | mk _ _ _ _ _ r _ _ _ _ _ _ _ _=>r
def ga:Pr->Option Addr | mk _ _ _ _ _ _ a _ _ _ _ _ _ _=>a
def gc:Pr->Nat | mk _ _ _ _ _ _ _ c _ _ _ _ _ _=>c
def gl:Pr->List Gu | mk _ _ _ _ _ _ _ _ l _ _ _ _ _=>l
def la:Pr->Option Addr | mk _ _ _ _ _ _ _ _ _ a _ _ _ _=>a
def lc:Pr->Nat | mk _ _ _ _ _ _ _ _ _ _ c _ _ _=>c
def ll:Pr->List Pr | mk _ _ _ _ _ _ _ _ _ _ _ l _ _=>l
def pn:Pr->Sli Int | mk _ _ _ _ _ _ _ _ _ _ _ _ p _=>p
def sp:Pr->Sp | mk _ _ _ _ _ _ _ _ _ _ _ _ _ s=>s
end Pr
def a6p (n:Int):List Value:=[.int .i64 n]
theorem b2o (n:Int):(a6p n).length=1:=rfl
set_option linter.defProp false in
@[reducible,instance]def iencN_len:=Go.Eng.Ln.mk b2o (by decide)
def foE (f:Fo):List Value:=[.bool f.val,.int .u8 f.ty.kind,.int .i64 f.ty.dim,.int .u8 f.ty.item,str f.ty.proto,str f.name]
theorem a79 (f:Fo):(foE f).length=6:=rfl
set_option linter.defProp false in
@[reducible,instance]def ifoE_len:=Go.Eng.Ln.mk a79 (by decide)
def rpE (r:Rp):List Value:=[str r.name,.int .u8 r.base.k,.int .u8 r.base.o,.int .u8 r.base.t,.int .i32 r.base.n,str r.base.s,.slice r.base.a r.base.l.length r.base.c,
 .int .u8 r.count.k,.int .u8 r.count.o,.int .u8 r.count.t,.int .i32 r.count.n,str r.count.s,.slice r.count.a r.count.l.length r.count.c]
def spE (s:Sp):List Value:=[.int .u8 s.k,.int .u8 s.ty.kind,.int .i64 s.ty.dim,.int .u8 s.ty.item,str s.ty.proto,.slice s.names.a s.names.l.length s.names.c,
 .int .u8 s.e.k,.int .u8 s.e.o,.int .u8 s.e.t,.int .i32 s.e.n,str s.e.s,.slice s.e.a s.e.l.length s.e.c,.bool s.cs,.slice s.vs.a s.vs.l.length s.vs.c,.slice s.fs.a s.fs.l.length s.fs.c,.slice s.ba s.bl.length s.bc]
def guE (g:Gu):List Value:=[.int .u8 g.k,str g.name,.int .u8 g.cond.k,.int .u8 g.cond.o,.int .u8 g.cond.t,.int .i32 g.cond.n,str g.cond.s,.slice g.cond.a g.cond.l.length g.cond.c,
 .int .u8 g.ch.k,.int .u8 g.ch.o,.int .u8 g.ch.t,.int .i32 g.ch.n,str g.ch.s,.slice g.ch.a g.ch.l.length g.ch.c,.slice g.tg.a g.tg.l.length g.tg.c,.slice g.vl.a g.vl.l.length g.vl.c,
 .int .u8 g.time.k,.int .u8 g.time.o,.int .u8 g.time.t,.int .i32 g.time.n,str g.time.s,.slice g.time.a g.time.l.length g.time.c,.slice g.ba g.bl.length g.bc]
theorem a8K (g:Gu):(guE g).length=23:=rfl
set_option linter.defProp false in
@[reducible,instance]def iguE_len:=Go.Eng.Ln.mk a8K (by decide)
def prE (p:Pr):List Value:=[.int .u8 p.k,str p.name,.int .u8 p.ch.k,.int .u8 p.ch.o,.int .u8 p.ch.t,.int .i32 p.ch.n,str p.ch.s,.slice p.ch.a p.ch.l.length p.ch.c,
 .slice p.tg.a p.tg.l.length p.tg.c,.slice p.ex.a p.ex.l.length p.ex.c,
 str p.rep.name,.int .u8 p.rep.base.k,.int .u8 p.rep.base.o,.int .u8 p.rep.base.t,.int .i32 p.rep.base.n,str p.rep.base.s,.slice p.rep.base.a p.rep.base.l.length p.rep.base.c,
 .int .u8 p.rep.count.k,.int .u8 p.rep.count.o,.int .u8 p.rep.count.t,.int .i32 p.rep.count.n,str p.rep.count.s,.slice p.rep.count.a p.rep.count.l.length p.rep.count.c,
 .slice p.ga p.gl.length p.gc,.slice p.la p.ll.length p.lc,.slice p.pn.a p.pn.l.length p.pn.c,
 .int .u8 p.sp.k,.int .u8 p.sp.ty.kind,.int .i64 p.sp.ty.dim,.int .u8 p.sp.ty.item,str p.sp.ty.proto,.slice p.sp.names.a p.sp.names.l.length p.sp.names.c,
 .int .u8 p.sp.e.k,.int .u8 p.sp.e.o,.int .u8 p.sp.e.t,.int .i32 p.sp.e.n,str p.sp.e.s,.slice p.sp.e.a p.sp.e.l.length p.sp.e.c,.bool p.sp.cs,.slice p.sp.vs.a p.sp.vs.l.length p.sp.vs.c,.slice p.sp.fs.a p.sp.fs.l.length p.sp.fs.c,.slice p.sp.ba p.sp.bl.length p.sp.bc]
theorem a4n (p:Pr):(prE p).length=42:=rfl
set_option linter.defProp false in
@[reducible,instance]def iprE_len:=Go.Eng.Ln.mk a4n (by decide)
def foV (f:Fo):Value:=.agg (foE f).toArray
def rpV (r:Rp):Value:=.agg (rpE r).toArray
def spV (s:Sp):Value:=.agg (spE s).toArray
def guV (g:Gu):Value:=.agg (guE g).toArray
def prV (p:Pr):Value:=.agg (prE p).toArray
mutual
def P7:Pr->Nat
 | .mk _ _ _ _ _ _ _ _ gl _ _ ll _ sp=>1+(K0 ll+(b6l sp+W4 gl))
def K0:List Pr->Nat
 | []=>0
 | x::r=>P7 x+K0 r
def b4V:Gu->Nat
 | .mk _ _ _ _ _ _ _ _ _ bl=>K0 bl
def W4:List Gu->Nat
 | []=>0
 | x::r=>b4V x+W4 r
def b6l:Sp->Nat
 | .mk _ _ _ _ _ _ _ _ _ bl=>K0 bl
end
theorem a8H (p:Pr):P7 p=1+(K0 p.ll+(b6l p.sp+W4 p.gl)):=by cases p;rfl
theorem a8a (s:Sp):b6l s=K0 s.bl:=by cases s;rfl
theorem b4W (g:Gu):b4V g=K0 g.bl:=by cases g;rfl
theorem a7s:∀ {l:List Pr} {x:Pr},x ∈ l->P7 x<=K0 l
 | y::r,x,h=>by
  unfold K0;rcases List.mem_cons.1 h with rfl | h
  ·omega
  ·have:=a7s h
   omega
theorem b4a:∀ {l:List Gu} {x:Gu},x ∈ l->b4V x<=W4 l
 | y::r,x,h=>by
  unfold W4;rcases List.mem_cons.1 h with rfl | h
  ·omega
  ·have:=b4a h
   omega
theorem a8b (p:Pr):1<=P7 p:=by rw[a8H];omega
inductive In:Pr->Pr->Prop
 | l {x p:Pr} (h:x ∈ p.ll):In x p
 | s {x p:Pr} (h:x ∈ p.sp.bl):In x p
 | g {x p:Pr} {g:Gu} (hg:g ∈ p.gl) (h:x ∈ g.bl):In x p
theorem In.lt {x p:Pr} (h:In x p):P7 x < P7 p:=by
 rw[a8H p];cases h with
 | l h=>have:=a7s h;omega
 | s h=>
  have:=a7s h;rw[<- a8a] at this;omega
 | g hg h=>
  have h1:=a7s h;have h2:=b4a hg;rw[<- b4W] at h1;omega
theorem Pr.ind {q:Pr->Prop} (h:∀ p,(∀ x,In x p->q x)->q p) (p:Pr):q p:=by
 have key:∀ n p,P7 p<=n->q p:=by
  intro n;induction n with
  | zero=>intro p hp;have:=a8b p;omega
  | succ n ih=>intro p hp;exact h p fun x hx=>ih x (by have:=hx.lt;omega)
 exact key (P7 p) p (Nat.le_refl _)
structure EOk (m:View) (h:List Res) (e:Ex):Prop where
 t:TOk m h e
 w:Wf e
theorem EOk.mono {m:View} {h h':List Res} {e:Ex} (q:EOk m h e) (s:h.Sublist h'):EOk m h' e:=⟨q.t.mono s,q.w⟩
structure LOk (m:View) (h:List Res) (s:Sli Ex):Prop where
 rd:Rd m h s.a s.l.length s.c 6 (fl exE s.l)
 ok:∀ x ∈ s.l,EOk m h x
theorem LOk.mono {m:View} {h h':List Res} {s:Sli Ex} (q:LOk m h s) (r:h.Sublist h'):LOk m h' s:=⟨q.rd.mono Vl r,fun x hx=>(q.ok x hx).mono r⟩
abbrev Big:Nat:=140737488355328
structure TyW (t:Ty):Prop where
 k:0<=t.kind/\t.kind<=255
 i:0<=t.item/\t.item<=255
 d:-9223372036854775808<=t.dim/\t.dim<=9223372036854775807
 p:t.proto.length<=Big
structure FoW (f:Fo):Prop where
 t:TyW f.ty
 n:f.name.length<=Big
structure SOk (m:View) (h:List Res) (s:Sp):Prop where
 k:0<=s.k/\s.k<=255
 ty:TyW s.ty
 nr:Rd m h s.names.a s.names.l.length s.names.c 1 (fl encB s.names.l)
 nw:∀ x ∈ s.names.l,x.length<=Big
 e:EOk m h s.e
 v:PrOk m h s.vs.a s.vs.l.length s.vs.c s.vs.l
 vw:∀ x ∈ s.vs.l,x.items.length=x.n
 fr:Rd m h s.fs.a s.fs.l.length s.fs.c 6 (fl foE s.fs.l)
 fw:∀ x ∈ s.fs.l,FoW x
 b:Rd m h s.ba s.bl.length s.bc 42 (fl prE s.bl)
structure GOk (m:View) (h:List Res) (g:Gu):Prop where
 k:0<=g.k/\g.k<=255
 n:g.name.length<=Big
 cond:EOk m h g.cond
 ch:EOk m h g.ch
 tg:LOk m h g.tg
 vl:LOk m h g.vl
 time:EOk m h g.time
 b:Rd m h g.ba g.bl.length g.bc 42 (fl prE g.bl)
structure P1 (m:View) (h:List Res) (p:Pr):Prop where
 k:0<=p.k/\p.k<=255
 n:p.name.length<=Big
 ch:EOk m h p.ch
 tg:LOk m h p.tg
 ex:LOk m h p.ex
 rn:p.rep.name.length<=Big
 rb:EOk m h p.rep.base
 rc:EOk m h p.rep.count
 g:Rd m h p.ga p.gl.length p.gc 23 (fl guE p.gl)
 gs:∀ x ∈ p.gl,GOk m h x
 l:Rd m h p.la p.ll.length p.lc 42 (fl prE p.ll)
 pn:Rd m h p.pn.a p.pn.l.length p.pn.c 1 (fl a6p p.pn.l)
 pw:∀ x ∈ p.pn.l,-9223372036854775808<=x/\x<=9223372036854775807
 sp:SOk m h p.sp
inductive POk (m:View) (h:List Res):Pr->Prop
 | mk {p:Pr} (o:P1 m h p) (s:∀ x,In x p->POk m h x):POk m h p
theorem POk.own {m:View} {h:List Res} {p:Pr} (q:POk m h p):P1 m h p:=by cases q;assumption
theorem POk.sub {m:View} {h:List Res} {p x:Pr} (q:POk m h p) (hx:In x p):POk m h x:=by cases q with | mk o s=>exact s x hx
theorem SOk.mono {m:View} {h h':List Res} {s:Sp} (q:SOk m h s) (r:h.Sublist h'):SOk m h' s:=
 ⟨q.k,q.ty,q.nr.mono Vl r,q.nw,q.e.mono r,q.v.mono Vl r,q.vw,q.fr.mono Vl r,q.fw,q.b.mono Vl r⟩
theorem GOk.mono {m:View} {h h':List Res} {g:Gu} (q:GOk m h g) (r:h.Sublist h'):GOk m h' g:=
 ⟨q.k,q.n,q.cond.mono r,q.ch.mono r,q.tg.mono r,q.vl.mono r,q.time.mono r,q.b.mono Vl r⟩
theorem P1.mono {m:View} {h h':List Res} {p:Pr} (q:P1 m h p) (r:h.Sublist h'):P1 m h' p:=
 ⟨q.k,q.n,q.ch.mono r,q.tg.mono r,q.ex.mono r,q.rn,q.rb.mono r,q.rc.mono r,q.g.mono Vl r,fun x hx=>(q.gs x hx).mono r,q.l.mono Vl r,q.pn.mono Vl r,q.pw,q.sp.mono r⟩
theorem POk.mono {m:View} {h h':List Res} {p:Pr} (q:POk m h p) (r:h.Sublist h'):POk m h' p:=by
 induction q with
 | mk o _ ih=>exact .mk (o.mono r) ih
end Go.Pc
end
namespace Go.Pc
section
open Go.Eng Go.Xp Go
open Go.Ty (Ty Vr)
def G8 (e:Ex):Bool:=C7 e A0
def D7 (e:Ex):Bool:=((e.k==4)||(e.k==5))&&E9 e
def a4y (a b:Int) (n:Int):Bool:=decide (n >= a)&&decide (n<=b)
def G2 {α:Type} (l:List α) (a b:Int) (q:α->Bool):Bool:=a4y a b l.length&&!(l.any fun x=>!q x)
structure Us where
 rep:Bool
 name:Bool
 chan:Bool
 spec:Bool
 procs:Bool
 t0:Int
 t1:Int
 e0:Int
 e1:Int
 p0:Int
 p1:Int
 g0:Int
 g1:Int
 lo:Int
 hi:Int
def usE (u:Us):List Value:=[.bool u.rep,.bool u.name,.bool u.chan,.bool u.spec,.bool u.procs,.int .i64 u.t0,.int .i64 u.t1,.int .i64 u.e0,.int .i64 u.e1,.int .i64 u.p0,.int .i64 u.p1,.int .i64 u.g0,.int .i64 u.g1,.int .u8 u.lo,.int .u8 u.hi]
def us0:Us:=⟨false,false,false,false,false,0,0,0,0,0,0,0,0,0,0⟩
def B6 (k:Int):Us × Bool:=
 if k=1 then (us0,true) else if k=2 then (us0,true)
 else if k=3 then ({ us0 with t0:=1,t1:=8,e0:=1,e1:=8 },true)
 else if k=4 then ({ us0 with chan:=true,t0:=1,t1:=8 },true)
 else if k=5 then ({ us0 with chan:=true,e0:=1,e1:=9 },true)
 else if k=6 then ({ us0 with chan:=true,e0:=1,e1:=1 },true)
 else if k=7 then ({ us0 with chan:=true,g0:=1,g1:=16,lo:=7,hi:=7 },true)
 else if k=8 then ({ us0 with rep:=true,p0:=0,p1:=2048 },true) else if k=9 then ({ us0 with rep:=true,p0:=0,p1:=2048 },true)
 else if k=10 then ({ us0 with p0:=2,p1:=2 },true)
 else if k=11 then ({ us0 with procs:=true,p0:=1,p1:=8 },true)
 else if k=12 then ({ us0 with rep:=true,g0:=0,g1:=16,lo:=2,hi:=4 },true) else if k=13 then ({ us0 with rep:=true,g0:=0,g1:=16,lo:=2,hi:=4 },true)
 else if k=14 then ({ us0 with rep:=true,g0:=0,g1:=16,lo:=1,hi:=1 },true)
 else if k=15 then ({ us0 with e0:=1,e1:=1,g0:=0,g1:=16,lo:=5,hi:=6 },true)
 else if k=16 then ({ us0 with e0:=1,e1:=1,p0:=1,p1:=1 },true)
 else if k=17 then ({ us0 with name:=true,e0:=0,e1:=8 },true)
 else if k=18 then ({ us0 with spec:=true,p0:=1,p1:=1 },true)
 else (us0,false)
def Q0 (t:Ty):Bool:=Go.Ty.may t&&(t.dim==0)&&decide (t.kind<=3)
def L3 (r:Rp):Bool:=if r.name==[] then G8 r.base&&G8 r.count else Go.Lx.name r.name&&E9 r.base&&E9 r.count
def foP (f:Fo):Bool:=Go.Lx.name f.name&&Go.Ty.may f.ty&&(!f.val||Q0 f.ty)
def O2 (u a z:Bool):Bool:=if u then a else z
def a4O (g:Gu):Bool:=if (g.k==3)||(g.k==4) then E9 g.cond||G8 g.cond else E9 g.cond
def guP (g:Gu):Bool:=
 (g.k != 0)&&decide (g.k<=7)&&((g.bl.length:Int)==1) &&
 O2 ((g.k==1)||(g.k==2)||(g.k==3)||(g.k==4)) (a4O g) (G8 g.cond) &&
 O2 (g.k==7) (Go.Lx.name g.name) (g.name==[]) &&
 O2 ((g.k==3)||(g.k==4)) (D7 g.ch) (G8 g.ch) &&
 O2 (g.k==4) (E9 g.time) (G8 g.time) &&
 G2 g.tg.l (if g.k=3 then 1 else 0) (if g.k=3 then 8 else if g.k=7 then 8 else 0) D7&&G2 g.vl.l (if g.k=5 then 1 else 0) (if g.k=5 then 8 else 0) E9
def a0z (f g:Fo):Bool:=(f.val==g.val)&&(Go.Ty.eqT f.ty g.ty&&((f.name==g.name)&&true))
def L5 (x y:Vr):Bool:=(x.tag==y.tag)&&(x.items==y.items)
def I8 (a b:Sp):Bool:=((((((((a.k==b.k)&&Go.Ty.eqT a.ty b.ty)&&(a.names.l==b.names.l))&&C7 a.e b.e)&&(a.cs==b.cs))&&eqL L5 a.vs.l b.vs.l)&&eqL a0z a.fs.l b.fs.l)&&((a.bl.length:Int)==b.bl.length))
def a1a (s:Sp):Sp:=
 if s.k=1 then .mk s.k s.ty s.names A0 false A7 A7 none 0 []
 else if s.k=2 then .mk s.k s.ty s.names s.e false A7 A7 none 0 []
 else if s.k=3 then .mk s.k s.ty s.names s.e false A7 A7 none 0 []
 else if s.k=4 then .mk s.k Go.Ty.zeroT s.names A0 s.cs s.vs A7 none 0 []
 else .mk s.k Go.Ty.zeroT s.names A0 false A7 s.fs s.ba s.bc s.bl
def a2g (s:Sp):Bool:=
 if s.k=1 then Go.Ty.may s.ty
 else if s.k=2 then Q0 s.ty&&E9 s.e
 else if s.k=3 then Q0 s.ty&&D7 s.e
 else if s.k=4 then Go.Ty.mayPr s.cs s.vs.l
 else ((s.bl.length:Int)==1)&&G2 s.fs.l 0 8 foP
def spP (s:Sp):Bool:=
 if 1<=s.k/\s.k<=5 then a2g s&&G2 s.names.l 1 (if s.k=1 then 8 else 1) Go.Lx.name&&I8 s (a1a s) else false
def A6:Sp:=.mk 0 Go.Ty.zeroT A7 A0 false A7 A7 none 0 []
def inG (u:Us) (g:Gu):Bool:=decide (g.k >= u.lo)&&decide (g.k<=u.hi)&&guP g
def c2j (u:Us):Bool:=(u.p0==0)&&(u.p1==2048)
def b5d (u:Us):Us:=if c2j u then { u with p0:=1,p1:=1 } else { u with g0:=1,g1:=1 }
def L8 (p:Pr) (u:Us):Bool:=
 a4y u.p0 u.p1 p.ll.length&&G2 p.gl u.g0 u.g1 (inG u) &&
 O2 u.name (Go.Lx.name p.name) (p.name==[]) &&
 O2 u.chan (D7 p.ch) (G8 p.ch) &&
 G2 p.tg.l u.t0 u.t1 D7&&G2 p.ex.l u.e0 u.e1 E9 &&
 G2 p.pn.l (if u.procs then (p.ll.length:Int) else 0) (if u.procs then (p.ll.length:Int) else 0) (fun n=>decide (n >= 0)&&decide (n < 8)) &&
 ((u.spec&&spP p.sp)||(!u.spec&&(I8 p.sp A6)))
def N5 (p:Pr):Bool:=
 if !(B6 p.k).2||!L3 p.rep then false
 else if p.rep.name != [] then (if !(B6 p.k).1.rep then false else L8 p (b5d (B6 p.k).1)) else L8 p (B6 p.k).1
end
section
open Go.Eng Go.Xp Go
open Go.Ty (Ty Vr)
theorem F9 {α:Type} {l:List α} {a b:Int} {q:α->Bool} (h:G2 l a b q=true):(∀ x ∈ l,q x=true)/\a<=l.length/\(l.length:Int)<=b:=by
 unfold G2 a4y at h;simp only[Bool.and_eq_true,decide_eq_true_eq,Bool.not_eq_true',List.any_eq_false] at h;exact⟨fun x hx=>by have:=h.2 x hx;simpa using this,h.1.1,h.1.2⟩
theorem a8Q {e:Ex} (h:D7 e=true):E9 e=true:=by
 unfold D7 at h;simp only[Bool.and_eq_true] at h;exact h.2
theorem b3j {e:Ex} (h:D7 e=true):e.k=4\/e.k=5:=by
 unfold D7 at h;simp only[Bool.and_eq_true,Bool.or_eq_true,beq_iff_eq] at h;exact h.1
structure Pl (p:Pr):Prop where
 kd:(B6 p.k).2=true
 rep:L3 p.rep=true
 ch:(B6 p.k).1.chan=true->D7 p.ch=true
 nc:(B6 p.k).1.chan=false->G8 p.ch=true
 tg:∀ x ∈ p.tg.l,D7 x=true
 ex:∀ x ∈ p.ex.l,E9 x=true
 tn:(B6 p.k).1.t0<=p.tg.l.length/\(p.tg.l.length:Int)<=(B6 p.k).1.t1
 en:(B6 p.k).1.e0<=p.ex.l.length/\(p.ex.l.length:Int)<=(B6 p.k).1.e1
 gs:∀ g ∈ p.gl,guP g=true/\(B6 p.k).1.lo<=g.k/\g.k<=(B6 p.k).1.hi
 gn:p.rep.name=[]->(B6 p.k).1.g0<=p.gl.length/\(p.gl.length:Int)<=(B6 p.k).1.g1
 pn:p.rep.name=[]->(B6 p.k).1.p0<=p.ll.length/\(p.ll.length:Int)<=(B6 p.k).1.p1
 rp:p.rep.name≠[]->(B6 p.k).1.rep=true
 sp:(B6 p.k).1.spec=true->spP p.sp=true
 ns:(B6 p.k).1.spec=false->I8 p.sp A6=true
theorem plU {p:Pr} {u:Us} (h:L8 p u=true):((a4y u.p0 u.p1 p.ll.length=true/\G2 p.gl u.g0 u.g1 (inG u)=true)/\O2 u.chan (D7 p.ch) (G8 p.ch)=true)/\(G2 p.tg.l u.t0 u.t1 D7=true/\G2 p.ex.l u.e0 u.e1 E9=true)/\((u.spec&&spP p.sp)||(!u.spec&&(I8 p.sp A6)))=true:=by
 unfold L8 at h;simp only[Bool.and_eq_true] at h;obtain⟨⟨⟨⟨⟨⟨⟨h1,h2⟩,h3⟩,h4⟩,h5⟩,h6⟩,h7⟩,h8⟩:=h;exact⟨⟨⟨h1,h2⟩,h4⟩,⟨h5,h6⟩,h8⟩
theorem a8C {u:Us} {g:Gu} (h:inG u g=true):guP g=true/\u.lo<=g.k/\g.k<=u.hi:=by
 unfold inG at h;simp only[Bool.and_eq_true,decide_eq_true_eq] at h;exact⟨h.2,h.1.1,h.1.2⟩
theorem a9i {a b n:Int} (h:a4y a b n=true):a<=n/\n<=b:=by
 unfold a4y at h;simp only[Bool.and_eq_true,decide_eq_true_eq] at h;exact h
theorem a1A {p:Pr} (h:N5 p=true):Pl p:=by
 unfold N5 at h;split at h
 ·cases h
 ·rename_i h0
  have h1:(B6 p.k).2=true/\L3 p.rep=true:=by
   cases h2:(B6 p.k).2 <;> cases h3:L3 p.rep <;> simp_all
  have key:∀ u:Us,L8 p u=true->u.chan=(B6 p.k).1.chan->u.spec=(B6 p.k).1.spec->u.t0=(B6 p.k).1.t0->u.t1=(B6 p.k).1.t1->u.e0=(B6 p.k).1.e0->u.e1=(B6 p.k).1.e1->u.lo=(B6 p.k).1.lo->u.hi=(B6 p.k).1.hi ->
   (p.rep.name=[]->u=(B6 p.k).1)->(p.rep.name≠[]->(B6 p.k).1.rep=true)->Pl p:=by
   intro u hu e1 e2 e3 e4 e5 e6 e7 e8 e9 e10;obtain⟨⟨⟨q1,q2⟩,q3⟩,⟨q4,q5⟩,q6⟩:=plU hu;obtain⟨g1,g2,g3⟩:=F9 q2;obtain⟨t1,t2,t3⟩:=F9 q4;obtain⟨x1,x2,x3⟩:=F9 q5;refine⟨h1.1,h1.2,fun hc=>?_,fun hc=>?_,t1,x1,⟨e3 ▸ t2,e4 ▸ t3⟩,⟨e5 ▸ x2,e6 ▸ x3⟩,fun g hg=>?_,fun hr=>?_,fun hr=>?_,e10,fun hc=>?_,fun hc=>?_⟩
   ·rw[e1,hc] at q3;exact q3
   ·rw[e1,hc] at q3;exact q3
   ·have:=a8C (g1 g hg)
    rw[e7,e8] at this;exact this
   ·rw[e9 hr] at g2 g3;exact⟨g2,g3⟩
   ·rw[e9 hr] at q1;exact a9i q1
   ·rw[e2,hc] at q6;simpa using q6
   ·rw[e2,hc] at q6;simpa using q6
  split at h
  ·rename_i hr
   have hr':p.rep.name≠[]:=by simpa using hr
   split at h
   ·cases h
   ·rename_i h4
    have h5:(B6 p.k).1.rep=true:=by simpa using h4
    unfold b5d at h;split at h
    ·exact key _ h rfl rfl rfl rfl rfl rfl rfl rfl (fun q=>absurd q hr') (fun _=>h5)
    ·exact key _ h rfl rfl rfl rfl rfl rfl rfl rfl (fun q=>absurd q hr') (fun _=>h5)
  ·rename_i hr
   have hr':p.rep.name=[]:=by simpa using hr
   exact key _ h rfl rfl rfl rfl rfl rfl rfl rfl (fun _=>rfl) (fun q=>absurd hr' q)
structure GuV (g:Gu):Prop where
 body:g.bl.length=1
 cond:1<=g.k->g.k<=4->E9 g.cond=true\/G8 g.cond=true
 ch:g.k=3\/g.k=4->D7 g.ch=true
 time:g.k=4->E9 g.time=true
 tg:∀ x ∈ g.tg.l,D7 x=true
 vl:∀ x ∈ g.vl.l,E9 x=true
theorem a8i {g:Gu} (h:guP g=true):GuV g:=by
 unfold guP at h;simp only[Bool.and_eq_true] at h;obtain⟨⟨⟨⟨⟨⟨⟨⟨h1,h2⟩,h3⟩,h4⟩,h5⟩,h6⟩,h7⟩,h8⟩,h9⟩:=h;refine⟨by simp only[beq_iff_eq] at h3;omega,fun a b=>?_,fun a=>?_,fun a=>?_,(F9 h8).1,(F9 h9).1⟩
 ·have hk:((g.k==1)||(g.k==2)||(g.k==3)||(g.k==4))=true:=by
   have:g.k=1\/g.k=2\/g.k=3\/g.k=4:=by omega
   rcases this with q | q | q | q <;> rw[q] <;> rfl
  rw[hk] at h4;replace h4:a4O g=true:=h4;unfold a4O at h4;split at h4
  ·simp only[Bool.or_eq_true] at h4;exact h4
  ·exact .inl h4
 ·have hk:((g.k==3)||(g.k==4))=true:=by rcases a with q | q <;> rw[q] <;> rfl
  rw[hk] at h6;exact h6
 ·have hk:(g.k==4)=true:=by rw[a];rfl
  rw[hk] at h7;exact h7
structure SpV (s:Sp):Prop where
 kd:1<=s.k/\s.k<=5
 ev:s.k=2->E9 s.e=true
 es:s.k=3->D7 s.e=true
 body:s.k=5->s.bl.length=1
 fs:s.k=5->s.fs.l.length<=8
theorem b0q {s:Sp} (h:spP s=true):SpV s:=by
 unfold spP at h;split at h
 ·rename_i hk
  simp only[Bool.and_eq_true] at h;have hf:=h.1.1;unfold a2g at hf;refine⟨hk,fun e=>?_,fun e=>?_,fun e=>?_,fun e=>?_⟩
  ·rw[if_neg (by omega),if_pos e] at hf
   simp only[Bool.and_eq_true] at hf;exact hf.2
  ·rw[if_neg (by omega),if_neg (by omega),if_pos e] at hf
   simp only[Bool.and_eq_true] at hf;exact hf.2
  ·rw[if_neg (by omega),if_neg (by omega),if_neg (by omega),if_neg (by omega)] at hf
   simp only[Bool.and_eq_true,beq_iff_eq] at hf;omega
  ·rw[if_neg (by omega),if_neg (by omega),if_neg (by omega),if_neg (by omega)] at hf
   simp only[Bool.and_eq_true,beq_iff_eq] at hf;have:=(F9 hf.2).2.2;omega
 ·cases h
inductive Vld:Pr->Prop
 | mk {p:Pr} (h:N5 p=true) (s:∀ x,In x p->Vld x):Vld p
theorem Vld.own {p:Pr} (q:Vld p):Pl p:=by cases q with | mk h _=>exact a1A h
theorem Vld.sub {p x:Pr} (q:Vld p) (hx:In x p):Vld x:=by cases q with | mk _ s=>exact s x hx
end
section
open Go.Eng Go.Xp Go
open Go.Ty (Ty Vr)
def a0c (p:Pr) (d:Int) (pl:Bool) (left:Int):Bool:=((decide (left - 1 < 0)||decide (d > 32))||!N5 p)||((p.k==11)&&!pl)
mutual
def J7:Pr->Int->Bool->Int->Bool × Int
 | .mk k name ch tg ex rep ga gc gl la lc ll pn sp,d,pl,left=>
  if a0c (.mk k name ch tg ex rep ga gc gl la lc ll pn sp) d pl left then (false,left - 1)
  else if k=18 then
   (if (a0U sp d (left - 1)).1 then
    (if (X9 ll d pl (a0U sp d (left - 1)).2).1 then a2e gl (d+2) (X9 ll d pl (a0U sp d (left - 1)).2).2 else X9 ll d pl (a0U sp d (left - 1)).2)
   else a0U sp d (left - 1))
  else if (X9 ll (if k=11 then d+2 else d+1) false (left - 1)).1 then a2e gl (d+2) (X9 ll (if k=11 then d+2 else d+1) false (left - 1)).2
  else X9 ll (if k=11 then d+2 else d+1) false (left - 1)
def X9:List Pr->Int->Bool->Int->Bool × Int
 | [],_,_,q=>(true,q)
 | x::r,d,pl,q=>if (J7 x d pl q).1 then X9 r d pl (J7 x d pl q).2 else J7 x d pl q
def a5s:List Pr->Int->Int->Bool × Int
 | [],_,q=>(true,q)
 | x::_,d,q=>J7 x d false q
def a0P:Gu->Int->Int->Bool × Int
 | .mk _ _ _ _ _ _ _ _ _ bl,d,q=>a5s bl d q
def a2e:List Gu->Int->Int->Bool × Int
 | [],_,q=>(true,q)
 | g::r,d,q=>if (a0P g d q).1 then a2e r d (a0P g d q).2 else a0P g d q
def a0U:Sp->Int->Int->Bool × Int
 | .mk _ _ _ _ cs _ _ _ _ bl,d,q=>if cs&&decide (d+2 > 32) then (false,q) else a5s bl (d+1) q
end
theorem a6I (p:Pr) (d:Int) (pl:Bool) (left:Int):J7 p d pl left =
 if a0c p d pl left then (false,left - 1)
 else if p.k=18 then
  (if (a0U p.sp d (left - 1)).1 then
   (if (X9 p.ll d pl (a0U p.sp d (left - 1)).2).1 then a2e p.gl (d+2) (X9 p.ll d pl (a0U p.sp d (left - 1)).2).2 else X9 p.ll d pl (a0U p.sp d (left - 1)).2)
  else a0U p.sp d (left - 1))
 else if (X9 p.ll (if p.k=11 then d+2 else d+1) false (left - 1)).1 then a2e p.gl (d+2) (X9 p.ll (if p.k=11 then d+2 else d+1) false (left - 1)).2
 else X9 p.ll (if p.k=11 then d+2 else d+1) false (left - 1):=by cases p;rfl
theorem a4K (g:Gu) (d q:Int):a0P g d q=a5s g.bl d q:=by cases g;rfl
theorem a7k (s:Sp) (d q:Int):a0U s d q=if s.cs&&decide (d+2 > 32) then (false,q) else a5s s.bl (d+1) q:=by cases s;rfl
def mayP (p:Pr):Bool:=(J7 p 0 true 2048).1
theorem b9w {s:Sp} (h:spP s=true):s.bl.length<=1:=by
 have hV:=b0q h;by_cases h5:s.k=5
 ·have:=hV.body h5;omega
 ·unfold spP at h
  rw[if_pos hV.kd] at h;simp only[Bool.and_eq_true] at h;have h2:=h.2;unfold I8 at h2;simp only[Bool.and_eq_true,beq_iff_eq] at h2;have h3:=h2.2;have hw:(a1a s).bl.length=0:=by
   unfold a1a;split
   ·rfl
   split
   ·rfl
   split
   ·rfl
   split
   ·rfl
   ·have:=hV.kd
    omega
  omega
theorem c9z {s:Sp} (h:I8 s A6=true):s.bl=[]:=by
 unfold I8 at h;simp only[Bool.and_eq_true,beq_iff_eq] at h;have h3:(s.bl.length:Int)=0:=h.2;exact List.eq_nil_of_length_eq_zero (by omega)
theorem b7p {k:Int} (h:k≠18):(B6 k).1.spec=false:=by
 unfold B6;by_cases h1:k=1
 ·rw[if_pos h1];rfl
 rw[if_neg h1];by_cases h2:k=2
 ·rw[if_pos h2];rfl
 rw[if_neg h2];by_cases h3:k=3
 ·rw[if_pos h3];rfl
 rw[if_neg h3];by_cases h4:k=4
 ·rw[if_pos h4];rfl
 rw[if_neg h4];by_cases h5:k=5
 ·rw[if_pos h5];rfl
 rw[if_neg h5];by_cases h6:k=6
 ·rw[if_pos h6];rfl
 rw[if_neg h6];by_cases h7:k=7
 ·rw[if_pos h7];rfl
 rw[if_neg h7];by_cases h8:k=8
 ·rw[if_pos h8];rfl
 rw[if_neg h8];by_cases h9:k=9
 ·rw[if_pos h9];rfl
 rw[if_neg h9];by_cases h10:k=10
 ·rw[if_pos h10];rfl
 rw[if_neg h10];by_cases h11:k=11
 ·rw[if_pos h11];rfl
 rw[if_neg h11];by_cases h12:k=12
 ·rw[if_pos h12];rfl
 rw[if_neg h12];by_cases h13:k=13
 ·rw[if_pos h13];rfl
 rw[if_neg h13];by_cases h14:k=14
 ·rw[if_pos h14];rfl
 rw[if_neg h14];by_cases h15:k=15
 ·rw[if_pos h15];rfl
 rw[if_neg h15];by_cases h16:k=16
 ·rw[if_pos h16];rfl
 rw[if_neg h16];by_cases h17:k=17
 ·rw[if_pos h17];rfl
 rw[if_neg h17];rw[if_neg h];rfl
theorem b6b {p:Pr} {d left:Int} {pl:Bool} (h:a0c p d pl left=false):(0<=left - 1/\d<=32)/\N5 p=true:=by
 unfold a0c at h;simp only[Bool.or_eq_false_iff,decide_eq_false_iff_not,Bool.not_eq_false'] at h;exact⟨⟨by omega,by omega⟩,h.1.2⟩
def Cnt (n:Nat) (q:Int) (r:Bool × Int):Prop:=r.1=true->(n:Int)=q - r.2/\0<=r.2
theorem b2b {l:List Pr} {d q:Int} (hq:0<=q) (hl:l.length<=1) (ih:∀ x ∈ l,∀ d pl q,0<=q->(J7 x d pl q).1=true->Vld x/\Cnt (P7 x) q (J7 x d pl q)) (h:(a5s l d q).1=true):(∀ x ∈ l,Vld x)/\(K0 l:Int)=q - (a5s l d q).2/\0<=(a5s l d q).2:=by
 match l,hl with
 | [],_=>exact⟨fun x hx=>(by cases hx),by show((0:Nat):Int)=q - q;omega,hq⟩
 | [x],_=>
  have h':(J7 x d false q).1=true:=h;obtain⟨h1,h2⟩:=ih x (List.Mem.head _) d false q hq h';obtain⟨h3,h4⟩:=h2 h';refine⟨fun y hy=>by cases List.mem_singleton.1 hy;exact h1,?_,h4⟩;show((P7 x+0:Nat):Int)=_;rw[Nat.add_zero];exact h3
theorem b1L {d:Int} {pl:Bool}:∀ {l:List Pr} {q:Int},0<=q->(∀ x ∈ l,∀ d pl q,0<=q->(J7 x d pl q).1=true->Vld x/\Cnt (P7 x) q (J7 x d pl q))->(X9 l d pl q).1=true->(∀ x ∈ l,Vld x)/\(K0 l:Int)=q - (X9 l d pl q).2/\0<=(X9 l d pl q).2
 | [],q,hq,_,_=>⟨fun x hx=>(by cases hx),by show((0:Nat):Int)=q - q;omega,hq⟩
 | x::r,q,hq,ih,h=>by
  have e:X9 (x::r) d pl q=if (J7 x d pl q).1 then X9 r d pl (J7 x d pl q).2 else J7 x d pl q:=rfl
  rw[e] at h ⊢;cases hc:(J7 x d pl q).1 with
  | false=>rw[hc,if_neg (by decide)] at h;rw[hc] at h;cases h
  | true=>
   rw[hc,if_pos rfl] at h;rw[if_pos rfl];obtain⟨h1,h2⟩:=ih x (List.Mem.head _) d pl q hq hc;obtain⟨h3,h4⟩:=h2 hc;obtain⟨h5,h6,h7⟩:=b1L h4 (fun y hy=>ih y (List.Mem.tail _ hy)) h;refine⟨fun y hy=>?_,?_,h7⟩
   ·rcases List.mem_cons.1 hy with rfl | hy
    ·exact h1
    ·exact h5 y hy
   ·show((P7 x+K0 r:Nat):Int)=_
    omega
theorem b1b {d:Int}:∀ {l:List Gu} {q:Int},0<=q->(∀ g ∈ l,g.bl.length<=1)->(∀ g ∈ l,∀ x ∈ g.bl,∀ d pl q,0<=q->(J7 x d pl q).1=true->Vld x/\Cnt (P7 x) q (J7 x d pl q))->(a2e l d q).1=true->(∀ g ∈ l,∀ x ∈ g.bl,Vld x)/\(W4 l:Int)=q - (a2e l d q).2/\0<=(a2e l d q).2
 | [],q,hq,_,_,_=>⟨fun x hx=>(by cases hx),by show((0:Nat):Int)=q - q;omega,hq⟩
 | g::r,q,hq,hb,ih,h=>by
  have e:a2e (g::r) d q=if (a0P g d q).1 then a2e r d (a0P g d q).2 else a0P g d q:=rfl
  rw[e,a4K] at h ⊢;cases hc:(a5s g.bl d q).1 with
  | false=>rw[hc,if_neg (by decide)] at h;rw[hc] at h;cases h
  | true=>
   rw[hc,if_pos rfl] at h;rw[if_pos rfl];obtain⟨h1,h3,h4⟩:=b2b hq (hb g (List.Mem.head _)) (ih g (List.Mem.head _)) hc;obtain⟨h5,h6,h7⟩:=b1b h4 (fun g' hg=>hb g' (List.Mem.tail _ hg)) (fun g' hg=>ih g' (List.Mem.tail _ hg)) h;refine⟨fun y hy=>?_,?_,h7⟩
   ·rcases List.mem_cons.1 hy with rfl | hy
    ·exact h1
    ·exact h5 y hy
   ·show((b4V g+W4 r:Nat):Int)=_
    rw[b4W];omega
theorem b2n (p:Pr):∀ (d:Int) (pl:Bool) (q:Int),0<=q->(J7 p d pl q).1=true->Vld p/\Cnt (P7 p) q (J7 p d pl q):=by
 refine Pr.ind (q:=fun p=>∀ (d:Int) (pl:Bool) (q:Int),0<=q->(J7 p d pl q).1=true->Vld p/\Cnt (P7 p) q (J7 p d pl q)) (fun p ih d pl q hq h=>?_) p;have e:=a6I p d pl q;cases hh:a0c p d pl q with
 | true=>rw[hh,if_pos rfl] at e;rw[e] at h;cases h
 | false=>
  rw[hh,if_neg (by decide)] at e;obtain⟨⟨h0,_⟩,hpl⟩:=b6b hh;have hV:=a1A hpl;have hgb:∀ g ∈ p.gl,g.bl.length<=1:=fun g hg=>by have:=(a8i (hV.gs g hg).1).body;omega
  have ihL:∀ x ∈ p.ll,∀ d pl q,0<=q->(J7 x d pl q).1=true->Vld x/\Cnt (P7 x) q (J7 x d pl q):=fun x hx=>ih x (In.l hx)
  have ihG:∀ g ∈ p.gl,∀ x ∈ g.bl,∀ d pl q,0<=q->(J7 x d pl q).1=true->Vld x/\Cnt (P7 x) q (J7 x d pl q):=fun g hg x hx=>ih x (In.g hg hx)
  have ihS:∀ x ∈ p.sp.bl,∀ d pl q,0<=q->(J7 x d pl q).1=true->Vld x/\Cnt (P7 x) q (J7 x d pl q):=fun x hx=>ih x (In.s hx)
  have mk:(∀ x ∈ p.ll,Vld x)->(∀ g ∈ p.gl,∀ x ∈ g.bl,Vld x)->(∀ x ∈ p.sp.bl,Vld x)->Vld p:=fun a b c=>.mk hpl fun x hx=>by
   cases hx with
   | l h=>exact a x h
   | s h=>exact c x h
   | g hg h=>exact b _ hg x h
  have hcp:=a8H p;by_cases h18:p.k=18
  ·rw[if_pos h18] at e
   have hsl:p.sp.bl.length<=1:=b9w (hV.sp (by rw[h18];rfl));cases hS:(a0U p.sp d (q - 1)).1 with
   | false=>rw[hS,if_neg (by decide)] at e;rw[e,hS] at h;cases h
   | true=>
    rw[hS,if_pos rfl] at e;have hSS:(∀ x ∈ p.sp.bl,Vld x)/\(K0 p.sp.bl:Int)=(q - 1) - (a0U p.sp d (q - 1)).2/\0<=(a0U p.sp d (q - 1)).2:=by
     rw[a7k] at hS ⊢;split at hS
     ·cases hS
     ·rename_i hc
      rw[if_neg hc];exact b2b h0 hsl ihS hS
    obtain⟨s1,s2,s3⟩:=hSS;cases hL:(X9 p.ll d pl (a0U p.sp d (q - 1)).2).1 with
    | false=>rw[hL,if_neg (by decide)] at e;rw[e,hL] at h;cases h
    | true=>
     rw[hL,if_pos rfl] at e;obtain⟨l1,l2,l3⟩:=b1L s3 ihL hL;rw[e] at h;obtain⟨g1,g2,g3⟩:=b1b l3 hgb ihG h;refine⟨mk l1 g1 s1,fun _=>?_⟩;rw[e];rw[a8a] at hcp;exact⟨by omega,g3⟩
  ·rw[if_neg h18] at e
   have hsn:p.sp.bl=[]:=by
    have hsp:(B6 p.k).1.spec=false:=b7p h18;exact c9z (hV.ns hsp)
   cases hL:(X9 p.ll (if p.k=11 then d+2 else d+1) false (q - 1)).1 with
   | false=>rw[hL,if_neg (by decide)] at e;rw[e,hL] at h;cases h
   | true=>
    rw[hL,if_pos rfl] at e;obtain⟨l1,l2,l3⟩:=b1L h0 ihL hL;rw[e] at h;obtain⟨g1,g2,g3⟩:=b1b l3 hgb ihG h;refine⟨mk l1 g1 (by rw[hsn];intro x hx;cases hx),fun _=>?_⟩;rw[e];rw[a8a,hsn] at hcp;replace hcp:P7 p=1+(K0 p.ll+(0+W4 p.gl)):=hcp;exact⟨by omega,g3⟩
theorem c3N {p:Pr} (h:mayP p=true):Vld p/\P7 p<=2048:=by
 obtain⟨h1,h2⟩:=b2n p 0 true 2048 (by decide) h;obtain⟨h3,h4⟩:=h2 h;exact⟨h1,by omega⟩
end
end Go.Pc
namespace Go.Ty
section
open Go.Lx
def a4s:B:=[67,72,65,78]
def cOF:B:=[79,70]
def a6o:B:=[84,73,77,69,82]
def lb:B:=[91]
def rb:B:=[93]
def D0 (s:B):Tok:=⟨5,0,s,0⟩
def a2S (s:B):Tok:=⟨2,0,s,0⟩
def dimT (t:Ty):List Tok:=if decide (t.dim > 0) then [D0 lb,⟨3,0,[],t.dim⟩,D0 rb] else []
def chanT (t:Ty):List Tok:=if t.kind==4 then [a2S a4s,a2S cOF] else []
def baseT (t:Ty):Int:=if t.kind==4 then t.item else t.kind
def lastT (t:Ty):Tok:=if (wordS (baseT t)).2.2 then a2S (wordS (baseT t)).1 else if !(t.proto==[]) then ⟨1,0,t.proto,0⟩ else a2S a6o
def toks (t:Ty):List Tok:=dimT t++chanT t++[lastT t]
def tokens (t:Ty):List Tok × Int:=if may t then (toks t,0) else ([],2)
theorem b3C {t:Ty} (h:may t=false):tokens t=([],2):=by unfold tokens;rw[h];rfl
theorem tokens_yes {t:Ty} (h:may t=true):tokens t=(toks t,0):=by unfold tokens;rw[h];rfl
theorem dimT_le (t:Ty):(dimT t).length<=3:=by unfold dimT;split <;> simp
theorem chanT_le (t:Ty):(chanT t).length<=2:=by unfold chanT;split <;> simp
theorem may_dim {t:Ty} (h:may t=true):0<=t.dim/\t.dim<=64:=by
 unfold may at h;split at h
 ·cases h
 ·rename_i hf
  unfold far at hf;simp at hf;omega
theorem c4s {t:Ty} (h:may t=true):IntKind.i32.wrap t.dim=t.dim:=by
 have:=may_dim h;unfold IntKind.wrap;simp[IntKind.bits,IntKind.signed];omega
end
section
open Go.Lx
def TkOk (l:List Tok):Prop:=∀ x,x ∈ l->(-2147483648<=x.n/\x.n<=2147483647)/\x.text.length<=9223372036854775807
def L7 (l:List Tok) (n:Nat):Tok:=l.getD n zeroK
theorem a3q {l:List Tok} {n:Nat} (h:n < l.length):l[n]?=some (L7 l n):=by
 unfold L7;rw[List.getD_eq_getElem?_getD,List.getElem?_eq_getElem h];rfl
def a5p (l:List Tok) (n:Nat) (kd:Int) (s:B):Bool:=
 decide ((n:Int) >= (l.length:Int))||((L7 l n).kind != kd)||!((L7 l n).text==s)||((kd != 3)&&((L7 l n).n != 0))
def next (l:List Tok) (n:Nat) (kd:Int) (s:B):Bool:=!a5p l n kd s
def nx (b:Bool) (n:Nat):Nat:=if b then n+1 else n
theorem a5l {l:List Tok} {n:Nat} {kd:Int} {s:B} (h:next l n kd s=true):n < l.length:=by
 unfold next a5p at h;simp at h;omega
def a4k (l:List Tok) (n:Nat):List Pm->Option Int
 | []=>none
 | p::r=>if next l n 2 p.word then some p.kind else a4k l n r
theorem a8p (l:List Tok) (n:Nat) {r:List Pm} {i:Nat} {p:Pm} (hp:r[i]?=some p):a4k l n (r.drop i)=if next l n 2 p.word then some p.kind else a4k l n (r.drop (i+1)):=by
 have h1:i < r.length:=(List.getElem?_eq_some_iff.1 hp).1;rw[List.drop_eq_getElem_cons h1,(List.getElem?_eq_some_iff.1 hp).2];rfl
def named (l:List Tok) (n:Nat):Option Int:=a4k l n prims
def nmB (l:List Tok) (n:Nat):Bool:=(named l n).isSome
def a7p (t:Ty):Option Int->Ty
 | some k=>{ t with kind:=k }
 | none=>t
def a8t (t:Ty):Option Int->Ty
 | some k=>{ t with item:=k }
 | none=>t
theorem b1x {l:List Tok} {n:Nat}:∀ {r:List Pm} {k:Int},a4k l n r=some k->n < l.length
 | p::r,k,h=>by
  unfold a4k at h;split at h
  ·rename_i hn;exact a5l hn
  ·exact b1x h
theorem d0g {l:List Tok} {n:Nat} (h:nmB l n=true):n < l.length:=by
 unfold nmB at h;cases hn:named l n with
 | none=>rw[hn] at h;cases h
 | some k=>exact b1x hn
def pre (l:List Tok):Bool × Int × Nat:=
 if next l 0 5 lb then
  (if next l 1 3 [] then
   (if decide ((L7 l 1).n > 0)&&next l 2 5 rb then (true,(L7 l 1).n,3) else (false,(L7 l 1).n,2))
   else (false,0,1))
 else (true,0,0)
def mid (l:List Tok):Bool × Ty × Nat:=
 match pre l with
 | (false,d,n)=>(false,⟨0,d,0,[]⟩,n)
 | (true,d,n)=>
  match named l n with
  | some k=>(true,⟨k,d,0,[]⟩,n+1)
  | none=>
   if next l n 2 a4s then
    (if next l (n+1) 2 cOF then
     (match named l (n+2) with
      | some k=>(true,⟨4,d,k,[]⟩,n+3)
      | none=>if decide ((n+2:Nat) < (l.length:Int))&&next l (n+2) 1 (L7 l (n+2)).text then (true,⟨4,d,0,(L7 l (n+2)).text⟩,n+3) else (true,⟨4,d,0,[]⟩,n+2))
     else (false,⟨4,d,0,[]⟩,n+1))
   else if next l n 2 a6o then (true,⟨5,d,0,[]⟩,n+1) else (true,⟨0,d,0,[]⟩,n)
def front (l:List Tok):Ty × Nat × Int:=
 match mid l with
 | (ok,t,n)=>if !ok||!may t then (zeroT,0,90) else (t,n,0)
theorem c2y {b:Bool} {n L:Nat} (h1:b=true->n < L) (h2:n<=L):nx b n<=L:=by
 unfold nx;cases b
 ·exact h2
 ·exact h1 rfl
theorem b8W {l:List Tok} (h1:next l 0 5 lb=true) (h2:next l 1 3 []=true) :
 pre l=(decide ((L7 l 1).n > 0)&&next l 2 5 rb,(L7 l 1).n,nx (decide ((L7 l 1).n > 0)&&next l 2 5 rb) 2):=by
 unfold pre;rw[h1,h2];generalize (decide ((L7 l 1).n > 0)&&next l 2 5 rb)=b;cases b <;> rfl
theorem c4O {l:List Tok} (h1:next l 0 5 lb=true) (h2:next l 1 3 []=false):pre l=(false,0,1):=by
 unfold pre;rw[h1,h2];rfl
theorem c2o {l:List Tok} (h1:next l 0 5 lb=false):pre l=(true,0,0):=by
 unfold pre;rw[h1];rfl
theorem c6W {l:List Tok} {ok:Bool} {d:Int} {n:Nat} (hP:pre l=(ok,d,n)) (hc:(!ok||nmB l n)=true):mid l=(ok,a7p ⟨0,d,0,[]⟩ (if ok then named l n else none),nx (ok&&nmB l n) n):=by
 unfold mid;rw[hP];cases ok with
 | false=>rfl
 | true=>
  unfold nmB at hc ⊢;cases hn:named l n with
  | none=>rw[hn] at hc;cases hc
  | some k=>simp only[hn];rfl
theorem b8H {l:List Tok} {n:Nat} (h:nmB l n=false):named l n=none:=by
 unfold nmB at h;cases hn:named l n with
 | none=>rfl
 | some k=>rw[hn] at h;cases h
theorem c6b {l:List Tok} {d:Int} {n N N2:Nat} {o b:Bool} {T2:Ty} (hP:pre l=(true,d,n)) (hn:named l n=none) (h38:next l n 2 a4s=true) (ho:next l (n+1) 2 cOF=o) (hN:nx o (n+1)=N) (hN2:nx (o&&nmB l N) N=N2)
 (hT:a8t ⟨4,d,0,[]⟩ (if o then named l N else none)=T2) (hb:((o&&!nmB l N)&&decide ((N2:Int) < l.length)&&next l N2 1 (L7 l N2).text)=b) :
 mid l=(o,if b then { T2 with proto:=(L7 l N2).text } else T2,nx b N2):=by
 unfold mid;rw[hP];simp only[hn,h38,ho,if_true];cases o with
 | false=>
  subst hT hN2 hN;simp at hb;subst hb;rfl
 | true=>
  have e:N=n+2:=hN.symm;subst e;simp only[if_true];unfold nmB at hN2 hb;cases hm:named l (n+2) with
  | some k=>
   rw[hm] at hN2 hb hT;simp at hb;subst hb hT hN2;rfl
  | none=>
   rw[hm] at hN2 hb hT;have e:N2=n+2:=hN2.symm;subst e;have hb':(decide (((n+2:Nat):Int) < (l.length:Int))&&next l (n+2) 1 (L7 l (n+2)).text)=b:=by simpa using hb
   simp only[hb'];subst hT;cases b <;> rfl
theorem b4M {l:List Tok} {d:Int} {n:Nat} (hP:pre l=(true,d,n)) (hn:named l n=none) (h38:next l n 2 a4s=false) (h73:next l n 2 a6o=true):mid l=(true,⟨5,d,0,[]⟩,n+1):=by
 unfold mid;rw[hP];simp only[hn,h38,h73,if_true,Bool.false_eq_true,if_false]
theorem b9d {l:List Tok} {d:Int} {n:Nat} (hP:pre l=(true,d,n)) (hn:named l n=none) (h38:next l n 2 a4s=false) (h73:next l n 2 a6o=false):mid l=(true,⟨0,d,0,[]⟩,n):=by
 unfold mid;rw[hP];simp only[hn,h38,h73,Bool.false_eq_true,if_false]
theorem b6q {l:List Tok} {ok:Bool} {t:Ty} {n:Nat} (h:mid l=(ok,t,n)) (hc:(!ok||!may t)=true):front l=(zeroT,0,90):=by
 unfold front;rw[h];simp only[hc,if_true]
theorem b3L {l:List Tok} {ok:Bool} {t:Ty} {n:Nat} (h:mid l=(ok,t,n)) (hc:(!ok||!may t)=false):front l=(t,n,0):=by
 unfold front;rw[h];simp only[hc,Bool.false_eq_true,if_false]
theorem wrapN {z:Int} (h:-2147483648<=z/\z<=2147483647):IntKind.i64.wrap z=z:=by
 unfold IntKind.wrap;simp[IntKind.bits,IntKind.signed];omega
end
end Go.Ty
namespace Go.Ly
section
open Go.Eng
abbrev B:=List UInt8
structure Rw where
 no:Int
 depth:Int
 text:B
structure Pc where
 no:Nat
 ind:Nat
 text:B
def encB (s:B):List Value:=[str s]
theorem D8 (s:B):(encB s).length=1:=rfl
set_option linter.defProp false in
@[reducible,instance]def iencB_len:=Go.Eng.Ln.mk D8 (by decide)
def S1 (r:Rw):List Value:=[.int .i64 r.no,.int .i64 r.depth,str r.text]
theorem G4 (r:Rw):(S1 r).length=3:=rfl
set_option linter.defProp false in
@[reducible,instance]def iencR_len:=Go.Eng.Ln.mk G4 (by decide)
def b7J (acc:B):B->List B
 | []=>[acc]
 | c::l=>if c==10 then acc::b7J [] l else b7J (acc++[c]) l
def d3F (s:B):List B:=b7J [] s
theorem c7r:∀ s:B,(Lib.indexByte s 10=-1/\(10:UInt8) ∉ s)\/∃ a r,s=a++10::r/\(10:UInt8) ∉ a/\Lib.indexByte s 10=a.length
 | []=>.inl ⟨rfl,by simp⟩
 | c::l=>by
  unfold Lib.indexByte;by_cases hc:(c==10)=true
  ·rw[if_pos hc]
   exact .inr ⟨[],l,by rw[eq_of_beq hc];rfl,by simp,rfl⟩
  ·rw[if_neg hc]
   have hc':c≠10:=fun e=>hc (by simp[e])
   rcases c7r l with ⟨e,h⟩ | ⟨a,r,rfl,h,e⟩
   ·rw[e]
    exact .inl ⟨rfl,by simp[h,Ne.symm hc']⟩
   ·rw[e,if_neg (by simp)]
    exact .inr ⟨c::a,r,rfl,by simp[h,Ne.symm hc'],by simp⟩
def d2V:B->B
 | []=>[]
 | c::l=>if c==45&&l.head?==some 45 then [] else c::d2V l
def c9b (s:B):B:=Lib.trimRightB (d2V s) 32
def txt (s:B):B:=Lib.trimLeftB (c9b s) 32
def ind (s:B):Nat:=(c9b s).length - (txt s).length
def c2m:B:=[44,59,40,91,43,45,42,47,92,61,60,62,126,38]
def c0Q (s:B):Bool:=match s.getLast? with
 | none=>false
 | some c=>c2m.contains c
theorem b6m (c:UInt8):∀ l:B,decide (Lib.indexByte l c >= 0)=l.contains c
 | []=>rfl
 | x::l=>by
  have ih:=b6m c l;have hge:=Lib.indexByte_ge l c;unfold Lib.indexByte;rw[List.contains_cons,show(c==x)=(x==c) from Bool.beq_comm];by_cases h:(x==c)=true
  ·rw[if_pos h,h];rfl
  ·rw[if_neg h,show(x==c)=false by simpa using h,Bool.false_or,<- ih]
   by_cases hi:Lib.indexByte l c=-1
   ·rw[if_pos (by simp[hi]),hi]
   ·rw[if_neg (by simpa using hi)]
    apply decide_eq_decide.2;omega
def okB (c:UInt8):Bool:=decide ((c.toNat:Int) >= 32)&&decide ((c.toNat:Int)<=126)
structure S where
 parts:List B
 first:Pc
 before:Int
 last:Nat
 out:List Rw
abbrev Out:=List Rw × Nat × Nat
def c00 (s:S):B:=Lib.join s.parts [32]
def d2S (s:S):Bool:=decide (s.first.ind / 2 > 32)||decide ((c00 s).length > 256)||decide (s.out.length=2048)
def d0p (s:S):S:=⟨[],s.first,(s.first.ind / 2:Nat),s.last,s.out++[⟨s.first.no,(s.first.ind / 2:Nat),c00 s⟩]⟩
def d1N (k:S->Out) (s:S):Out:=if c0Q (c00 s) then k s else if d2S s then ([],s.first.no,3) else k (d0p s)
def c9w (s:S) (p:Pc):Bool:=!s.parts.isEmpty&&decide (p.ind < s.first.ind)
def c9x (s:S) (p:Pc):Bool:=s.parts.isEmpty&&(decide (p.ind % 2=1)||decide (((p.ind / 2:Nat):Int) > s.before+1))
def c9m (s:S) (p:Pc):S:=⟨s.parts++[p.text],if s.parts.isEmpty then p else s.first,s.before,p.no,s.out⟩
def run:List Pc->S->Out
 | [],s=>if s.parts.isEmpty then (s.out,0,0) else ([],s.last,5)
 | p::ps,s=>if c9w s p then ([],p.no,70) else if c9x s p then ([],p.no,70) else d1N (run ps) (c9m s p)
def s0:S:=⟨[],⟨0,0,[]⟩,-1,0,[]⟩
theorem b7x (p:Pc) (ps:List Pc) (s:S):run (p::ps) s=if c9w s p then ([],p.no,70) else if c9x s p then ([],p.no,70) else d1N (run ps) (c9m s p):=rfl
end
section
open Go.Eng
structure PcOk (p:Pc):Prop where
 ne:p.text≠[]
 len:p.text.length<=65536
 ind:p.ind<=65536
 no:p.no<=65537
structure Inv (N:Nat) (s:S):Prop where
 cnt:s.parts.length+s.out.length<=N
 txt:(c00 s).length<=N * 65537
 bef:-1<=s.before/\s.before<=65536
 ind:s.first.ind<=65536
 out:s.out.length<=2048
end
section
open Go.Eng
theorem a1k {α:Type} {l:List α} {k:Nat} {c:α} (hc:l[k]?=some c):l.drop k=c::l.drop (k+1):=by
 have h1:k < l.length:=(List.getElem?_eq_some_iff.1 hc).1;rw[List.drop_eq_getElem_cons h1,(List.getElem?_eq_some_iff.1 hc).2]
theorem a4o {α:Type} {l:List α} {k:Nat} {c:α} (hc:l[k]?=some c):l.take (k+1)=l.take k++[c]:=take_snoc hc
end
section
open Go.Eng
def c6I (s:B):Bool:=(((((s==[])||decide ((s.length:Int) > 256))||(Lib.trimB s 32 != s))||Lib.contains s [45,45])||c0Q s)
def validP (s:B):Bool:=!c6I s&&s.all okB
def c1z (no depth:Int) (x:Rw):Bool:=((((decide (x.no<=no)||decide (x.no > 65536))||decide (x.depth < 0))||decide (x.depth > if 32 < depth+1 then 32 else depth+1))||!validP x.text)
def b6S (no depth size:Int):List Rw->Bool
 | []=>decide (size<=65537)
 | x::r=>if c1z no depth x then false else b6S x.no x.depth (size+2 * x.depth+x.text.length+1) r
def mayP (l:List Rw):Bool:=if (l.length:Int) > 2048 then false else b6S 0 (-1) 0 l
theorem c2a {no depth size:Int} {l:List Rw} {k:Nat} {x:Rw} (hx:l[k]?=some x):b6S no depth size (l.drop k)=if c1z no depth x then false else b6S x.no x.depth (size+2 * x.depth+x.text.length+1) (l.drop (k+1)):=by
 rw[a1k hx];rfl
theorem validP_spec {s:B} (h:validP s=true):s≠[]/\s.length<=256/\Lib.trimB s 32=s/\Lib.contains s [45,45]=false/\c0Q s=false/\s.all okB=true:=by
 simp only[validP,c6I,Bool.and_eq_true,Bool.not_eq_true',Bool.or_eq_false_iff,decide_eq_false_iff_not,bne_eq_false_iff_eq,beq_eq_false_iff_ne] at h;obtain⟨⟨⟨⟨⟨h1,h2⟩,h3⟩,h4⟩,h5⟩,h6⟩:=h;exact⟨h1,by omega,h3,h4,h5,h6⟩
theorem b99 {no depth:Int} {x:Rw} (h:c1z no depth x=false):no < x.no/\x.no<=65536/\0<=x.depth/\x.depth<=depth+1/\x.depth<=32/\validP x.text=true:=by
 simp only[c1z,Bool.or_eq_false_iff,decide_eq_false_iff_not,Bool.not_eq_false'] at h;obtain⟨⟨⟨⟨h1,h2⟩,h3⟩,h4⟩,h5⟩:=h;split at h4 <;> exact⟨by omega,by omega,by omega,by omega,by omega,h5⟩
theorem mayA_all:∀ {l:List Rw} {no depth size:Int},b6S no depth size l=true->∀ x ∈ l,0<=x.depth/\x.depth<=32/\validP x.text=true
 | [],_,_,_,_,x,hx=>by cases hx
 | y::r,no,depth,size,h,x,hx=>by
  unfold b6S at h;split at h
  ·cases h
  ·rename_i hb
   obtain⟨h1,h2,h3,h4,h5,h6⟩:=b99 (by simpa using hb);rcases List.mem_cons.1 hx with rfl | hx
   ·exact⟨h3,h5,h6⟩
   ·exact mayA_all h x hx
theorem mayP_all {l:List Rw} (h:mayP l=true):l.length<=2048/\∀ x ∈ l,0<=x.depth/\x.depth<=32/\x.text.length<=256:=by
 unfold mayP at h;split at h
 ·cases h
 ·exact⟨by omega,fun x hx=>by obtain⟨h1,h2,h3⟩:=mayA_all h x hx;exact⟨h1,h2,(validP_spec h3).2.1⟩⟩
def eqR (x y:Rw):Bool:=x.no==y.no&&(x.depth==y.depth&&(x.text==y.text&&true))
theorem b4F (x y:Rw):eqR x y=true↔x=y:=by
 cases x;cases y
 simp[eqR]
theorem b5f {x y:Rw} (h:(!eqR x y)=true):eqR x y=false:=by simpa using h
theorem b4B {x y:Rw} (h:(!eqR x y)=false):eqR x y=true:=by simpa using h
end
end Go.Ly
namespace Go.Sx
section
open Go.Eng Go.Pc Go
open Go.Xp hiding B
open Go.Ty (Ty Vr Tok)
open Go.Ly (Rw)
abbrev E (α:Type):=Except Int (α × List Tok)
def M7 {α β:Type} (r:E α) (f:α->List Tok->E β):E β:=match r with
 | .ok (x,ts)=>f x ts
 | .error e=>.error e
def isM (k:Int) (s:B):List Tok->Bool
 | []=>false
 | t::_=>(t.kind==k)&&(t.text==s)
def U9 {β:Type} (k:Int) (s:B) (ts:List Tok) (f:List Tok->E β):E β:=if isM k s ts then f ts.tail else .error 110
def U5:List Tok->E B
 | []=>.error 110
 | t::r=>if t.kind=1 then .ok (t.text,r) else .error 110
def H3 (ts:List Tok):E Ex:=match K7 ts with
 | .ok (x,k)=>.ok (x,ts.drop k)
 | .error _=>.error 110
def F6 (ts:List Tok):E Ex:=if (ts.headD Go.Ty.zeroK).kind=1 then M7 (H3 ts) fun x r=>if D7 x then .ok (x,r) else .error 110 else .error 110
def a4H (ts:List Tok):E Ty:=if (Go.Ty.front ts).2.2=0 then .ok ((Go.Ty.front ts).1,ts.drop (Go.Ty.front ts).2.1) else .error 110
def a1D (ts:List Tok):E Int:=M7 (a4H ts) fun t r=>if Q0 t then .ok (t.kind,r) else .error 110
def W8 (ts:List Tok):E Fo:=M7 (a4H (if isM 2 [86,65,76] ts then ts.tail else ts)) fun t r=>M7 (U5 r) fun n r=>if foP ⟨isM 2 [86,65,76] ts,t,n⟩ then .ok (⟨isM 2 [86,65,76] ts,t,n⟩,r) else .error 110
def a0N {α:Type} (take:List Tok->E α) (sep:B):Nat->List α->List Tok->E (List α)
 | 0,acc,ts=>if isM 5 sep ts then .error 110 else .ok (acc,ts)
 | n+1,acc,ts=>if isM 5 sep ts then M7 (take ts.tail) fun x r=>a0N take sep n (acc++[x]) r else .ok (acc,ts)
def M0 {α:Type} (take:List Tok->E α) (sep:B) (most:Nat) (ts:List Tok):E (List α):=M7 (take ts) fun x r=>a0N take sep (most - 1) [x] r
def brM {α:Type} (take:List Tok->E α) (ts:List Tok):E (List α):=U9 5 [40] ts fun r=>if isM 5 [41] r then .ok ([],r.tail) else M7 (M0 take [44] 8 r) fun l r=>U9 5 [41] r fun r=>.ok (l,r)
def B5:Rp:=⟨[],A0,A0⟩
def a8P (ts:List Tok):E Rp:=if ts.isEmpty then .ok (B5,ts) else M7 (U5 ts) fun n r=>U9 5 [61] r fun r=>M7 (H3 r) fun b r=>U9 2 [70,79,82] r fun r=>M7 (H3 r) fun c r=>.ok (⟨n,b,c⟩,r)
def sl {α:Type} (l:List α):Sli α:=⟨none,0,l⟩
def guM (k:Int) (nm:B) (cond ch:Ex) (tg vl:List Ex) (time:Ex):Gu:=.mk k nm cond ch (sl tg) (sl vl) time none 0 []
def ifM (ts:List Tok):E Gu:=M7 (H3 ts) fun c r=>.ok (guM 1 [] c A0 [] [] A0,r)
def a5K (ts:List Tok):Bool:=match K7 ts with
 | .ok (_,n)=>isM 5 [38] (ts.drop n)
 | .error _=>false
def a3K (c:Ex) (ts:List Tok):E Gu:=M7 (F6 ts) fun ch r=>U9 5 [63] r fun r=>if isM 2 [65,70,84,69,82] r then M7 (H3 r.tail) fun t r=>.ok (guM 4 [] c ch [] [] t,r) else M7 (M0 F6 [59] 8 r) fun l r=>.ok (guM 3 [] c ch l [] A0,r)
def a2l (ts:List Tok):E Gu:=if a5K ts then M7 (H3 ts) fun c r=>U9 5 [38] r fun r=>if isM 2 [83,75,73,80] r then .ok (guM 2 [] c A0 [] [] A0,r.tail) else a3K c r else a3K A0 ts
def a7M (ts:List Tok):E Gu:=if isM 2 [69,76,83,69] ts then .ok (guM 6 [] A0 A0 [] [] A0,ts.tail) else M7 (M0 H3 [44] 8 ts) fun l r=>.ok (guM 5 [] A0 A0 [] l A0,r)
def a7Q (ts:List Tok):E Gu:=M7 (U5 ts) fun n r=>if isM 5 [59] r then M7 (M0 F6 [59] 8 r.tail) fun l r=>.ok (guM 7 n A0 A0 l [] A0,r) else .ok (guM 7 n A0 A0 [] [] A0,r)
abbrev PE (α:Type):=Except (Int × Nat) (α × Nat)
def M4 {α β:Type} (r:PE α) (f:α->Nat->PE β):PE β:=match r with
 | .ok (x,i)=>f x i
 | .error e=>.error e
def E8 {α β:Type} (r:E α) (i:Nat) (f:α->List Tok->PE β):PE β:=match r with
 | .ok (x,ts)=>f x ts
 | .error e=>.error (e,i)
def D9 {β:Type} (ts:List Tok) (i:Nat) (f:Nat->PE β):PE β:=if ts.isEmpty then f (i+1) else .error (110,i)
def U0 {β:Type} (k:Int) (s:B) (ts:List Tok) (i:Nat) (f:List Tok->PE β):PE β:=if isM k s ts then f ts.tail else .error (110,i)
section
variable (R:List Rw)
def M8 (d:Int) (i:Nat):Bool:=match R[i]? with
 | some x=>x.depth==d
 | none=>false
def a1h (d:Int) (i:Nat):Except (Int × Nat) (List Tok):=match R[i]? with
 | none=>.error (110,i)
 | some x=>if (Go.Lx.lexO x.text).2.2≠0 then .error ((Go.Lx.lexO x.text).2.2,i) else if x.depth≠d then .error (110,i) else .ok (Go.Lx.lexO x.text).1
def a0d {β:Type} (d:Int) (i:Nat) (f:List Tok->PE β):PE β:=match a1h R d i with
 | .ok ts=>f ts
 | .error e=>.error e
def a1N {β:Type} (d:Int) (k:Int) (s:B) (i:Nat) (f:Nat->PE β):PE β:=a0d R d i fun ts=>U0 k s ts i fun r=>D9 r i f
def prM (k:Int) (nm:B) (ch:Ex) (tg ex:List Ex) (rep:Rp) (gl:List Gu) (ll:List Pr) (pn:List Int) (sp:Sp):Pr:=.mk k nm ch (sl tg) (sl ex) rep none 0 gl none 0 ll (sl pn) sp
def spM (k:Int) (ty:Ty) (names:List B) (e:Ex) (cs:Bool) (vs:List Vr) (fs:List Fo) (bl:List Pr):Sp:=.mk k ty (sl names) e cs (sl vs) (sl fs) none 0 bl
def a2i (g:Gu) (x:Pr):Gu:=.mk g.k g.name g.cond g.ch g.tg g.vl g.time none 0 [x]
variable (rec:Int->Bool->Nat->PE Pr)
def R5 (row:List Tok->E Gu) (least most:Nat) (d:Int):Nat->List Gu->Nat->PE (List Gu)
 | 0,acc,i=>if acc.length < least then .error (110,i) else .ok (acc,i)
 | k+1,acc,i=>if acc.length < least\/(acc.length < most/\M8 R d i=true) then a0d R d i fun ts=>E8 (row ts) i fun g r=>D9 r i fun i=>M4 (rec (d+1) false i) fun x i=>R5 row least most d k (acc++[a2i g x]) i
  else .ok (acc,i)
def a1l (row:List Tok->E Gu) (least most:Nat) (d:Int) (i:Nat):PE (List Gu):=R5 R rec row least most d (R.length - i) [] i
def a0t (d:Int):Nat->List Pr->Nat->PE (List Pr)
 | 0,acc,i=>.ok (acc,i)
 | k+1,acc,i=>if M8 R d i then M4 (rec d false i) fun x i=>a0t d k (acc++[x]) i else .ok (acc,i)
def b2C (k:Int) (ts:List Tok) (i:Nat):PE Pr:=D9 ts i fun i=>.ok (prM k [] A0 [] [] B5 [] [] [] A6,i)
def a1X (k:Int) (d:Int) (ts:List Tok) (i:Nat):PE Pr:=E8 (a8P ts) i fun r ts=>D9 ts i fun i=>
 if r.name≠[] then M4 (rec (d+1) false i) fun x i=>.ok (prM k [] A0 [] [] r [] [x] [] A6,i)
 else M4 (a0t R rec (d+1) (R.length - i) [] i) fun l i=>.ok (prM k [] A0 [] [] r [] l [] A6,i)
def V6 (k:Int) (row:List Tok->E Gu) (d:Int) (ts:List Tok) (i:Nat):PE Pr:=E8 (a8P ts) i fun r ts=>D9 ts i fun i=>
 M4 (a1l R rec row (if r.name≠[] then 1 else 0) (if r.name≠[] then 1 else 16) (d+1) i) fun l i=>.ok (prM k [] A0 [] [] r l [] [] A6,i)
def b5u (d:Int) (ts:List Tok) (i:Nat):PE Pr:=if isM 2 [80,65,82] ts then D9 ts.tail i fun i=>M4 (rec (d+1) false i) fun x i=>M4 (rec (d+1) false i) fun y i=>.ok (prM 10 [] A0 [] [] B5 [] [x,y] [] A6,i)
 else U0 2 [65,76,84] ts i fun r=>V6 R rec 13 a2l d r i
def b5x (d:Int) (ts:List Tok) (i:Nat):PE Pr:=E8 (H3 ts) i fun e r=>D9 r i fun i=>M4 (a1l R rec a7M 0 16 (d+1) i) fun l i=>.ok (prM 15 [] A0 [] [e] B5 l [] [] A6,i)
def b02 (d:Int) (ts:List Tok) (i:Nat):PE Pr:=E8 (H3 ts) i fun e r=>D9 r i fun i=>M4 (rec (d+1) false i) fun x i=>.ok (prM 16 [] A0 [] [e] B5 [] [x] [] A6,i)
def a5I (ts:List Tok):Option Int:=match ts with
 | [t]=>if t.kind=3/\0<=t.n/\t.n < 8 then some t.n else none
 | _=>none
def P5 (d:Int):Nat->List Int->List Pr->Nat->PE (List Int × List Pr)
 | 0,ns,acc,i=>if acc.length=0 then .error (110,i) else .ok ((ns,acc),i)
 | k+1,ns,acc,i=>if acc.length=0\/(acc.length < 8/\M8 R (d+1) i=true) then a0d R (d+1) i fun ts=>U0 2 [80,82,79,67,69,83,83,79,82] ts i fun r=>match a5I r with
  | some n=>M4 (rec (d+2) false (i+1)) fun x i=>P5 d k (ns++[n]) (acc++[x]) i
  | none=>.error (110,i)
  else .ok ((ns,acc),i)
def a4b (d:Int) (ts:List Tok) (i:Nat):PE Pr:=U0 2 [80,65,82] ts i fun r=>D9 r i fun i=>M4 (P5 R rec d (R.length - i) [] [] i) fun x i=>.ok (prM 11 [] A0 [] [] B5 [] x.2 x.1 A6,i)
def N1 (d:Int) (ts:List Tok) (i:Nat):PE Pr:=
 if (ts.headD Go.Ty.zeroK).kind=1/\isM 5 [40] ts.tail=true then E8 (U5 ts) i fun n r=>E8 (brM H3 r) i fun l r=>D9 r i fun i=>.ok (prM 17 n A0 [] l B5 [] [] [] A6,i)
 else E8 (M0 F6 [44] 8 ts) i fun f r=>
  if isM 5 [58,61] r then E8 (M0 H3 [44] 8 r.tail) i fun l r=>D9 r i fun i=>.ok (prM 3 [] A0 f l B5 [] [] [] A6,i)
  else if f.length > 1 then .error (110,i)
  else if isM 5 [33] r then E8 (M0 H3 [59] 9 r.tail) i fun l r=>D9 r i fun i=>.ok (prM 5 [] (f.headD A0) [] l B5 [] [] [] A6,i)
  else U0 5 [63] r i fun r=>
   if isM 2 [67,65,83,69] r then D9 r.tail i fun i=>M4 (a1l R rec a7Q 1 16 (d+1) i) fun l i=>.ok (prM 7 [] (f.headD A0) [] [] B5 l [] [] A6,i)
   else if isM 2 [65,70,84,69,82] r then E8 (H3 r.tail) i fun e r=>D9 r i fun i=>.ok (prM 6 [] (f.headD A0) [] [e] B5 [] [] [] A6,i)
   else E8 (M0 F6 [59] 8 r) i fun l r=>D9 r i fun i=>.ok (prM 4 [] (f.headD A0) l [] B5 [] [] [] A6,i)
def vrM (tag:B) (l:List Int):Vr:=⟨tag,none,l.length,0,l⟩
def Z4 (ts:List Tok):E Vr:=M7 (U5 ts) fun n r=>if isM 5 [59] r then M7 (M0 a1D [59] 8 r.tail) fun l r=>.ok (vrM n l,r) else .ok (vrM n [],r)
def U3 (d:Int):Nat->List Vr->Nat->PE (List Vr)
 | 0,acc,i=>if acc.length=0 then .error (110,i) else .ok (acc,i)
 | k+1,acc,i=>if acc.length=0\/M8 R (d+2) i=true then a0d R (d+2) i fun ts=>E8 (Z4 ts) i fun v r=>if Go.Ty.mayPr true (acc++[v]) then D9 r i fun i=>U3 d k (acc++[v]) i else .error (110,i)
  else .ok (acc,i)
def a5A (d:Int) (ts:List Tok) (i:Nat):PE (Bool × List Vr):=
 if isM 2 [73,83] ts then E8 (M0 a1D [59] 8 ts.tail) i fun l r=>U0 5 [58] r i fun r=>D9 r i fun i=>.ok ((false,[vrM [] l]),i)
 else D9 ts i fun i=>a1N R (d+1) 2 [67,65,83,69] i fun i=>M4 (U3 R d (R.length - i) [] i) fun l i=>a1N R d 5 [58] i fun i=>.ok ((true,l),i)
def a7v (s:Sp) (ts:List Tok) (i:Nat):PE (Option Sp):=U0 5 [58] ts i fun r=>if spP s then D9 r i fun i=>.ok (some s,i) else .error (110,i)
def W2 (d:Int) (ts:List Tok) (i:Nat):PE (Option Sp):=
 if isM 2 [80,82,79,84,79,67,79,76] ts then E8 (U5 ts.tail) i fun n r=>M4 (a5A R d r i) fun p i=>.ok (some (spM 4 Go.Ty.zeroT [n] A0 p.1 p.2 [] []),i)
 else if isM 2 [80,82,79,67] ts then E8 (U5 ts.tail) i fun n r=>E8 (brM W8 r) i fun fs r=>D9 r i fun i=>M4 (rec (d+1) false i) fun x i=>a1N R d 5 [58] i fun i=>.ok (some (spM 5 Go.Ty.zeroT [n] A0 false [] fs [x]),i)
 else if isM 2 [86,65,76] ts then E8 (a4H ts.tail) i fun t r=>E8 (U5 r) i fun n r=>U0 2 [73,83] r i fun r=>E8 (H3 r) i fun e r=>a7v (spM 2 t [n] e false [] [] []) r i
 else if isM 5 [91] ts||isM 2 [73,78,84] ts||isM 2 [66,89,84,69] ts||isM 2 [66,79,79,76] ts||isM 2 [67,72,65,78] ts||isM 2 [84,73,77,69,82] ts then E8 (a4H ts) i fun t r=>E8 (M0 U5 [44] 8 r) i fun ns r=>
  if isM 2 [73,83] r then E8 (F6 r.tail) i fun e r=>a7v (spM 3 t ns e false [] [] []) r i else a7v (spM 1 t ns A0 false [] [] []) r i
 else .ok (none,i)
def a09 (s:B):Option (Int->List Tok->Nat->PE Pr):=
 if s=[83,75,73,80] then some fun _ ts i=>b2C 1 ts i else if s=[83,84,79,80] then some fun _ ts i=>b2C 2 ts i
 else if s=[83,69,81] then some (a1X R rec 8) else if s=[80,65,82] then some (a1X R rec 9)
 else if s=[80,82,73] then some (b5u R rec) else if s=[65,76,84] then some (V6 R rec 12 a2l) else if s=[73,70] then some (V6 R rec 14 ifM)
 else if s=[67,65,83,69] then some (b5x R rec) else if s=[87,72,73,76,69] then some (b02 rec) else if s=[80,76,65,67,69,68] then some (a4b R rec) else none
def a1K (d:Int) (top:Bool) (ts:List Tok) (i:Nat):PE Pr:=match ts with
 | []=>.error (110,i)
 | t::r=>match a09 R rec t.text with
  | some f=>if t.kind=2/\(top=true\/t.text≠[80,76,65,67,69,68]) then f d r i else N1 R rec d ts i
  | none=>N1 R rec d ts i
def b00 (d:Int) (top:Bool) (i:Nat):PE Pr:=a0d R d i fun ts=>M4 (W2 R rec d ts i) fun so i=>match so with
 | some s=>M4 (rec d top i) fun x i=>.ok (prM 18 [] A0 [] [] B5 [] [x] [] s,i)
 | none=>a1K R rec d top ts i
end
def A4 (R:List Rw):Nat->Int->Bool->Nat->PE Pr
 | 0=>fun _ _ i=>.error (110,i)
 | n+1=>b00 R (A4 R n)
def b0f (R:List Rw):PE Pr:=M4 (A4 R R.length 0 true 0) fun x i=>match R[i]? with
 | none=>.ok (x,i)
 | some y=>.error (if (Go.Lx.lexO y.text).2.2≠0 then (Go.Lx.lexO y.text).2.2 else 110,i)
def N4 (R:List Rw):Pr × Nat × Int:=if Go.Ly.mayP R then (match b0f R with
 | .ok (x,_)=>(x,0,0)
 | .error (e,i)=>(prM 0 [] A0 [] [] B5 [] [] [] A6,i,e)) else (prM 0 [] A0 [] [] B5 [] [] [] A6,0,2)
end
end Go.Sx
namespace Go.Lx
section
open Go.Ty
theorem b6E (s:B):(L1 s).2<=s.length:=by
 unfold L1;split
 ·exact Nat.zero_le _
 ·rename_i h
  have h1:1<=s.length:=by
   cases s with
   | nil=>exact absurd rfl h
   | cons a t=>simp
  split
  ·exact h1
  ·split
   ·exact Nat.zero_le _
   ·rename_i h2
    have h2:2<=s.length:=by simp at h2;omega
    split
    ·exact h2
    ·split
     ·exact Nat.zero_le _
     ·rename_i h4
      have h4:4<=s.length:=by simp at h4;omega
      split
      ·exact Nat.zero_le _
      ·exact h4
theorem b0E (r:B):(tok r).2<=r.length:=by
 have h0:=a7K r;have h1:=a7K (r.drop 1);have h2:=b6E (r.drop 1);have h3:(r.drop 1).length=r.length - 1:=List.length_drop;cases r with
 | nil=>decide
 | cons c r=>
  simp only[List.length_cons] at h0 h1 h2 h3 ⊢;unfold tok;split
  ·unfold a3G
   split
   ·exact h0
   ·split
    ·exact Nat.zero_le _
    ·exact h0
  ·split
   ·unfold b0b
    split
    ·exact Nat.zero_le _
    ·split
     ·exact Nat.zero_le _
     ·split
      ·exact Nat.zero_le _
      ·exact h0
   ·split
    ·unfold b1m
     split
     ·exact Nat.zero_le _
     ·split
      ·exact Nat.zero_le _
      ·show 1+run (List.drop 1 (c::r))<=_
       omega
    ·split
     ·unfold a1o
      split
      ·exact Nat.zero_le _
      ·rename_i h
       unfold noQ at h;simp only[Bool.not_eq_true,Bool.or_eq_false_iff] at h;have:(L1 (List.drop 1 (c::r))).2≠(List.drop 1 (c::r)).length:=fun e=>by
        have:=h.1.2;rw[e] at this;simp at this
       show(L1 (List.drop 1 (c::r))).2+2<=_;omega
     ·unfold a6q
      split
      ·rename_i h
       simp only[Bool.and_eq_true,decide_eq_true_eq] at h;exact h.1
      ·split
       ·show 1<=_
        omega
       ·exact Nat.zero_le _
def b0F (r:B):Nat->Tok × Nat
 | 0=>(zeroK,0)
 | k+1=>if sym (r.take (k+1)) then (⟨5,0,r.take (k+1),0⟩,k+1) else b0F r k
theorem c4a (r:B):a6q r=b0F r (min 2 r.length):=by
 match r with
 | []=>rfl
 | [a]=>rfl
 | a::b::s=>
  rw[show min 2 (a::b::s).length=2 by simp];unfold a6q b0F b0F b0F;simp
theorem a06:∀ (n k1 k2:Nat) (r:B) (p:Nat),r.length<=n->n<=k1->n<=k2->b09 k1 r p=b09 k2 r p
 | _,k1,k2,[],p,_,_,_=>by cases k1 <;> cases k2 <;> rfl
 | 0,_,_,c::r,p,h,_,_=>by simp at h
 | n+1,k1,k2,c::r,p,h,h1,h2=>by
  obtain⟨j1,rfl⟩:∃ j,k1=j+1:=⟨k1 - 1,by omega⟩;obtain⟨j2,rfl⟩:∃ j,k2=j+1:=⟨k2 - 1,by omega⟩;have hr:r.length<=n:=by simpa using h
  unfold b09;rw[a06 n j1 j2 r (p+1) hr (by omega) (by omega)];by_cases hn:(tok (c::r)).2==0
  ·simp only[hn,if_true]
  ·have hn':(tok (c::r)).2≠0:=by simpa using hn
   rw[a06 n j1 j2 ((c::r).drop (tok (c::r)).2) (p+(tok (c::r)).2) (by rw[List.length_drop,List.length_cons];omega) (by omega) (by omega)]
def lx (r:B) (p:Nat):Except Nat (List Tok):=b09 r.length r p
def a8m (l:List Tok):Except Nat (List Tok)->Except Nat (List Tok)
 | .ok m=>.ok (l++m)
 | .error e=>.error e
theorem c2B (x:Except Nat (List Tok)):a8m [] x=x:=by cases x <;> rfl
theorem c3o (l m:List Tok) (x:Except Nat (List Tok)):a8m l (a8m m x)=a8m (l++m) x:=by
 cases x with
 | error e=>rfl
 | ok k=>simp[a8m]
theorem d0h (p:Nat):lx [] p=.ok []:=rfl
theorem a6E (r:B) (p:Nat):lx (32::r) p=lx r (p+1):=by
 show b09 (r.length+1) (32::r) p=_;unfold b09;rw[if_pos (by decide)];rfl
theorem lx_bad {c:UInt8} {r:B} {p:Nat} (hc:c≠32) (hn:(tok (c::r)).2=0):lx (c::r) p=.error p:=by
 have e:((c.toNat:Int)==32)=false:=by
  cases h:(c.toNat:Int)==32 with
  | false=>rfl
  | true => exact absurd (UInt8.toNat.inj (by have := eq_of_beq h; have e : c.toNat = 32 := by exact_mod_cast this
                                              rw[e];rfl)) hc
 show(if (c.toNat:Int)==32 then _ else if (tok (c::r)).2==0 then Except.error p else _)=_;rw[e,hn];rfl
theorem lx_tok {c:UInt8} {r:B} {p:Nat} (hc:c≠32) (hn:(tok (c::r)).2≠0):lx (c::r) p=a8m [{ (tok (c::r)).1 with at_:=p }] (lx ((c::r).drop (tok (c::r)).2) (p+(tok (c::r)).2)):=by
 have e:((c.toNat:Int)==32)=false:=by
  cases h:(c.toNat:Int)==32 with
  | false=>rfl
  | true => exact absurd (UInt8.toNat.inj (by have := eq_of_beq h; have e : c.toNat = 32 := by exact_mod_cast this
                                              rw[e];rfl)) hc
 have e2:((tok (c::r)).2==0)=false:=by simpa using hn
 show(if (c.toNat:Int)==32 then _ else if (tok (c::r)).2==0 then Except.error p else match b09 r.length ((c::r).drop (tok (c::r)).2) (p+(tok (c::r)).2) with
  | .ok l=>.ok ({ (tok (c::r)).1 with at_:=p }::l)
  | .error e=>.error e)=_
 rw[e,e2];simp only[Bool.false_eq_true,if_false];rw[a06 ((c::r).drop (tok (c::r)).2).length r.length ((c::r).drop (tok (c::r)).2).length _ _ (Nat.le_refl _) (by rw[List.length_drop,List.length_cons];omega) (Nat.le_refl _)];unfold lx;cases b09 ((c::r).drop (tok (c::r)).2).length ((c::r).drop (tok (c::r)).2) (p+(tok (c::r)).2) <;> rfl
def d3q:Except Nat (List Tok)->List Tok × Int × Int
 | .ok l=>(l,0,0)
 | .error a=>([],a,80)
theorem a7f {s:B} (h:decide ((s.length:Int) > 256)=true):lexO s=([],0,3):=by unfold lexO;rw[h];rfl
theorem a5y {s:B} (h:decide ((s.length:Int) > 256)=false):lexO s=d3q (lx s 0):=by
 unfold lexO lx;rw[h];cases b09 s.length s 0 <;> rfl
theorem a1k {s:B} {p:Nat} {c:UInt8} (h:s[p]?=some c):s.drop p=c::s.drop (p+1):=by
 have h1:p < s.length:=(List.getElem?_eq_some_iff.1 h).1;rw[List.drop_eq_getElem_cons h1,(List.getElem?_eq_some_iff.1 h).2]
theorem b96 {s:B} {p:Nat} {l:List Tok} (h:s[p]?=some 32) (hJ:lx s 0=a8m l (lx (s.drop p) p)):lx s 0=a8m l (lx (s.drop (p+1)) (p+1)):=by
 rw[a1k h,a6E] at hJ;exact hJ
theorem c2D {s:B} {p:Nat} {c:UInt8} {l:List Tok} (h:s[p]?=some c) (hc:c≠32) (hn:(tok (s.drop p)).2=0) (hJ:lx s 0=a8m l (lx (s.drop p) p)):lx s 0=.error p:=by
 rw[a1k h] at hn hJ;rw[lx_bad hc hn] at hJ;exact hJ
theorem c4J {s:B} {p:Nat} {c:UInt8} {l:List Tok} (h:s[p]?=some c) (hc:c≠32) (hn:(tok (s.drop p)).2≠0) (hJ:lx s 0=a8m l (lx (s.drop p) p)) :
 lx s 0=a8m (l++[{ (tok (s.drop p)).1 with at_:=p }]) (lx (s.drop (p+(tok (s.drop p)).2)) (p+(tok (s.drop p)).2)):=by
 have e:=a1k h;rw[e] at hn hJ ⊢;rw[lx_tok hc hn,c3o,<- e,List.drop_drop] at hJ;rw[e] at hJ;exact hJ
theorem b9v (c:UInt8):((c.toNat:Int)==32)=(c==32):=by simpa using a0A (p:=fun c=>((c.toNat:Int)==32)==(c==32)) (by decide +kernel) c
end
section
open Go.Ty
def V2 (u:Nat):Nat->B
 | 0=>[]
 | i+1=>Q6.getD (u / 16 ^ i % 16) 0::V2 u i
theorem a1w (u:Nat):∀ i,(V2 u i).length=i
 | 0=>rfl
 | i+1=>by show(V2 u i).length+1=_;rw[a1w u i]
def V0 (v:Int) (hex:Bool):B:=if hex then 35::V2 (IntKind.u32.wrap v).toNat 8 else Lib.itoa v
def d0A:B:=[13,10,9,39,42]
def b6l:B:=[99,110,116,39,42]
def shI (v:Nat):Int:=Lib.indexByte d0A (UInt8.ofNat v)
def a4A (v:Nat):B:=
 if decide (shI v >= 0) then [42,b6l.getD (shI v).toNat 0]
 else if decide ((v:Int) < 32)||decide ((v:Int) > 126) then [42,35,Q6.getD (v / 16) 0,Q6.getD (v % 16) 0]
 else [UInt8.ofNat v]
def N8 (t:Tok):B:=if t.kind==3 then V0 t.n (decide (t.n < 0)) else if t.kind==4 then [39]++a4A t.n.toNat++[39] else t.text
def a9A (t:Tok) (s:B):Bool:=(t.kind==5)&&Lib.contains s t.text
def b7N:B:=[44,59,58,41,93]
def b7m:B:=[40,91]
def gap (p t:Tok):Bool:=!a9A t b7N&&!a9A p b7m&&((p.kind != 1)||!a9A t b7m)
def a5P:Option Tok->Tok->Bool
 | none,_=>false
 | some p,t=>gap p t
def sep (b:Bool):B:=if b then [32] else []
def textL:Option Tok->List Tok->B
 | _,[]=>[]
 | p,t::l=>sep (a5P p t)++N8 t++textL (some t) l
def a6y (p:Option Tok):List Tok->Option Tok
 | []=>p
 | t::l=>a6y (some t) l
theorem a9s:∀ (l m:List Tok) (p:Option Tok),textL p (l++m)=textL p l++textL (a6y p l) m
 | [],m,p=>rfl
 | t::l,m,p=>by
  show sep (a5P p t)++N8 t++textL (some t) (l++m)=sep (a5P p t)++N8 t++textL (some t) l++textL (a6y (some t) l) m;rw[a9s l m (some t)];simp
theorem b1t:∀ (l:List Tok) (i:Nat) (p:Option Tok) (t:Tok),l[i]?=some t->a6y p (l.take (i+1))=some t
 | [],i,p,t,h=>by cases i <;> cases h
 | x::l,0,p,t,h=>by cases h;cases l <;> rfl
 | x::l,i+1,p,t,h=>by
  show a6y (some x) (l.take (i+1))=some t;exact b1t l i (some x) t (by simpa using h)
theorem b8F {l:List Tok} {i:Nat} {t:Tok} (p:Option Tok) (h:l[i]?=some t):textL p (l.take (i+1))=textL p (l.take i)++(sep (a5P (a6y p (l.take i)) t)++N8 t):=by
 have h1:i < l.length:=(List.getElem?_eq_some_iff.1 h).1;have e:l.take (i+1)=l.take i++[t]:=by
  rw[List.take_add_one,h];rfl
 rw[e,a9s];show textL p (l.take i)++(sep _++N8 t++[])=_;simp
def textO (l:List Tok):B × Int:=
 if l.any fun t=>!G3 t then ([],2) else if decide (((textL none l).length:Int) > 256) then ([],3) else (textL none l,0)
theorem c0U {l:List Tok} (h:l.any (fun t=>!G3 t)=true):textO l=([],2):=by unfold textO;rw[h];rfl
theorem b7R {l:List Tok} (h:l.any (fun t=>!G3 t)=false) {i:Nat} (hi:256 < (textL none (l.take i)).length):textO l=([],3):=by
 unfold textO;rw[h];have:decide (((textL none l).length:Int) > 256)=true:=by
  have e:textL none l=textL none (l.take i)++textL (a6y none (l.take i)) (l.drop i):=by rw[<- a9s,List.take_append_drop]
  rw[e,List.length_append];simp;omega
 rw[this];rfl
theorem b5T {l:List Tok} (h:l.any (fun t=>!G3 t)=false) (hl:(textL none l).length<=256):textO l=(textL none l,0):=by
 unfold textO;rw[h];have:decide (((textL none l).length:Int) > 256)=false:=by simp;omega
 rw[this];rfl
theorem b2Y (v:Nat):(a4A v).length<=4:=by
 unfold a4A;split
 ·simp
 ·split <;> simp
theorem b4I:∀ (n u:Nat),u<=n->(Lib.decDigits u).length<=u+1
 | n,u,h=>by
  unfold Lib.decDigits;split
  ·simp
  ·rename_i h10
   cases n with
   | zero=>omega
   | succ n=>
    have:=b4I n (u / 10) (by omega);rw[List.length_append,List.length_singleton];omega
theorem c1F {v:Int} (b:Bool) (h:-2147483648<=v/\v<=2147483647):(V0 v b).length<=3000000000:=by
 unfold V0;split
 ·rw[List.length_cons,a1w];omega
 ·unfold Lib.itoa
  split
  ·have:=b4I _ v.natAbs (Nat.le_refl _);rw[List.length_cons];omega
  ·have:=b4I _ v.toNat (Nat.le_refl _);omega
theorem c1q {t:Tok} (h:-2147483648<=t.n/\t.n<=2147483647) (hs:t.text.length<=140737488355328):(N8 t).length<=140737488355328:=by
 unfold N8;split
 ·have:=c1F (decide (t.n < 0)) h;omega
 ·split
  ·have:=b2Y t.n.toNat
   simp only[List.length_append,List.length_singleton];omega
  ·exact hs
theorem a7C (u:Nat) (i:Nat):V2 u (i+1)=Q6.getD (u / 16 ^ i % 16) 0::V2 u i:=rfl
end
end Go.Lx
section
namespace Go.Lx
open Go.Ty
set_option maxRecDepth 100000
theorem a8c:∀ (l:B),∀ c ∈ l.take (run l),wch c=true
 | [],c,h=>by cases h
 | x::l,c,h=>by
  have e:run (x::l)=if wch x then run l+1 else 0:=rfl
  cases hw:wch x with
  | false=>rw[e,hw] at h;cases h
  | true=>
   rw[e,hw] at h;simp only[if_true,List.take_succ_cons] at h;rcases List.mem_cons.1 h with rfl | h
   ·exact hw
   ·exact a8c l c h
theorem b0j:∀ (n:Nat) (y:B),n<=y.length->(∀ c ∈ y.take n,wch c=true)->(∀ c,y[n]?=some c->wch c=false)->run y=n
 | 0,[],_,_,_=>rfl
 | 0,x::y,_,_,h=>by
  have:=h x rfl;show(if wch x then run y+1 else 0)=0;rw[this];rfl
 | n+1,[],h,_,_=>by simp at h
 | n+1,x::y,h,h1,h2=>by
  have hx:wch x=true:=h1 x (by simp);show(if wch x then run y+1 else 0)=n+1;rw[hx,if_pos rfl,b0j n y (by simpa using h) (fun c hc=>h1 c (by simp[hc])) (fun c hc=>h2 c (by simpa using hc))]
def a5H (t:Tok) (n:Nat) (c:UInt8):Bool:=
 if t.kind==4 then true else if t.kind==5 then (n==2)||!sym (t.text++[c]) else !wch c
def stop (t:Tok) (n:Nat) (y:B):Prop:=∀ c,y[n]?=some c->a5H t n c=true
theorem b4i {x y:B} {n:Nat} (hn:run x=n) (ht:y.take n=x.take n) (hl:n<=y.length) (hs:∀ c,y[n]?=some c->wch c=false):run y=n:=
 b0j n y hl (fun c hc=>by rw[ht,<- hn] at hc;exact a8c x c hc) hs
theorem b2p {x:B} {t:Tok} {n:Nat} (h:a3G x=(t,n)) (hn:n≠0):run x=n/\(t.kind=1\/t.kind=2)/\t.text=x.take n/\t.n=0/\t.at_=0:=by
 unfold a3G at h;split at h
 ·cases h;exact⟨rfl,.inr rfl,rfl,rfl,rfl⟩
 ·split at h
  ·cases h;exact absurd rfl hn
  ·cases h;exact⟨rfl,.inl rfl,rfl,rfl,rfl⟩
theorem b6W {x:B} {t:Tok} {n:Nat} (h:b0b x=(t,n)) (hn:n≠0):run x=n/\t.kind=3/\t.text=[]/\t.at_=0:=by
 unfold b0b at h;split at h
 ·cases h;exact absurd rfl hn
 ·split at h
  ·cases h;exact absurd rfl hn
  ·split at h
   ·cases h;exact absurd rfl hn
   ·cases h;exact⟨rfl,rfl,rfl,rfl⟩
theorem b7F {x:B} {t:Tok} {n:Nat} (h:b1m x=(t,n)) (hn:n≠0):1+run (x.drop 1)=n/\t.kind=3/\t.text=[]/\t.at_=0:=by
 unfold b1m at h;split at h
 ·cases h;exact absurd rfl hn
 ·split at h
  ·cases h;exact absurd rfl hn
  ·cases h;exact⟨rfl,rfl,rfl,rfl⟩
theorem b3h {x:B} {t:Tok} {n:Nat} (h:a1o x=(t,n)) (hn:n≠0):noQ (x.drop 1) (L1 (x.drop 1)).2=false/\t=⟨4,0,[],(L1 (x.drop 1)).1⟩/\n=(L1 (x.drop 1)).2+2:=by
 unfold a1o at h;split at h
 ·cases h;exact absurd rfl hn
 ·rename_i hq;cases h;exact⟨by simpa using hq,rfl,rfl⟩
theorem b4d {x:B} {t:Tok} {n:Nat} (h:a6q x=(t,n)) (hn:n≠0):t=⟨5,0,x.take n,0⟩/\sym (x.take n)=true/\n<=x.length/\(n=2\/n=1/\(2<=x.length->sym (x.take 2)=false)):=by
 unfold a6q at h;split at h
 ·rename_i hc
  simp only[Bool.and_eq_true,decide_eq_true_eq] at hc;cases h;exact⟨rfl,hc.2,hc.1,.inl rfl⟩
 ·rename_i h2
  split at h
  ·rename_i hc
   simp only[Bool.and_eq_true,decide_eq_true_eq] at hc;cases h;refine⟨rfl,hc.2,hc.1,.inr ⟨rfl,fun hl=>?_⟩⟩;cases hb:sym (x.take 2) with
   | false=>rfl
   | true=>exact absurd (by rw[hb];simpa using hl) h2
  ·cases h;exact absurd rfl hn
theorem c7c {x y:B} {n k:Nat} (h:y.take n=x.take n) (hk:k<=n):y.take k=x.take k:=by
 have:=congrArg (List.take k) h;rwa [List.take_take,List.take_take,Nat.min_eq_left hk] at this
theorem a8z {x y:B} {n i:Nat} (h:y.take n=x.take n) (hi:i < n):y[i]?=x[i]?:=by
 have:=congrArg (fun l=>l[i]?) h;simpa [List.getElem?_take_of_lt hi] using this
theorem a8I {x y:B} {n:Nat} (h:y.take (n+1)=x.take (n+1)):(y.drop 1).take n=(x.drop 1).take n:=by
 have:=congrArg (List.drop 1) h;rwa [List.drop_take,List.drop_take,Nat.add_sub_cancel] at this
theorem c1s {s s':B} {k:Nat} (hk:(L1 s).2=k) (h0:k≠0) (ht:s'.take (k+1)=s.take (k+1)) (hl:k+1<=s.length) (hl':k+1<=s'.length):L1 s'=L1 s:=by
 match s,s',hl,hl' with
 | a::t,a'::t',hl,hl'=>
  have ea:a'=a:=by simpa using a8z (i:=0) ht (by omega)
  subst ea;cases hb:(decide ((a'.toNat:Int) < 32)||decide ((a'.toNat:Int) > 126)||(a'==39)) with
  | true=>rw[b2V a' t hb] at hk;exact absurd hk.symm h0
  | false=>
   cases hs:a' != 42 with
   | true=>rw[a5R a' t hb hs,a5R a' t' hb hs]
   | false=>
    have e:a'=42:=by simpa using hs
    subst e;rw[a5n] at hk ⊢;rw[a5n];match t,t' with
    | [],_=>exact absurd hk.symm h0
    | b::u,[]=>
     simp at hl';exact absurd hl' h0
    | b::u,b'::u'=>
     simp only at hk ⊢;have hk2:2<=k:=by
      revert hk
      split
      ·intro h;show 2<=k;rw[<- h];exact Nat.le_refl _
      ·split
       ·intro h;exact absurd h.symm h0
       ·split
        ·intro h;exact absurd h.symm h0
        ·intro h;rw[<- h];show 2<=4;decide
     have eb:b'=b:=by simpa using a8z (i:=1) ht (by omega)
     subst eb;cases hE:decide (esc b' >= 0) with
     | true=>rfl
     | false=>
      simp only[hE,Bool.false_eq_true,if_false] at hk ⊢;cases hc:(b' != 35)||decide (u.length < 2) with
      | true=>rw[hc] at hk;exact absurd hk.symm h0
      | false=>
       rw[hc] at hk;simp only[Bool.false_eq_true,if_false] at hk;have hk4:k=4:=by
        revert hk
        split
        ·intro h;exact absurd h.symm h0
        ·intro h;exact h.symm
       subst hk4;simp only[Bool.or_eq_false_iff] at hc;have hu:u'.take 2=u.take 2:=by
        have:=congrArg (List.drop 2) (c7c (k:=4) ht (by omega));simpa using this
       have hc':((b' != 35)||decide (u'.length < 2))=false:=by
        rw[hc.1];simp only[List.length_cons] at hl';simp;omega
       rw[hc',hu]
theorem c8x {x y:B} {i:Nat} (h:y[i]?=x[i]?):chB y i=chB x i:=by
 unfold chB;rw[List.getD_eq_getElem?_getD,List.getD_eq_getElem?_getD,h]
theorem c8C {x y:B} {t:Tok} {n:Nat} (h:tok x=(t,n)) (hn:n≠0) (ht:y.take n=x.take n) (hl:n<=y.length) (hs:stop t n y):tok y=(t,n):=by
 have e0:chB y 0=chB x 0:=c8x (a8z ht (by omega));have hlx:n<=x.length:=by have:=b0E x;rw[h] at this;exact this
 unfold tok at h ⊢;rw[e0];split at h
 ·rename_i hc
  rw[if_pos hc];obtain⟨hr,hk,_,_,_⟩:=b2p h hn;have hry:=b4i hr ht hl fun c hc=>by
   have:=hs c hc;unfold a5H at this;rcases hk with hk | hk <;> rw[hk] at this <;> simpa using this
  rw[<- h];unfold a3G;rw[hry,hr,ht]
 ·rename_i hc
  rw[if_neg hc];split at h
  ·rename_i hc
   rw[if_pos hc];obtain⟨hr,hk,_⟩:=b6W h hn;have hry:=b4i hr ht hl fun c hc=>by
    have:=hs c hc;unfold a5H at this;rw[hk] at this;simpa using this
   rw[<- h];unfold b0b;rw[hry,hr,ht]
  ·rename_i hc
   rw[if_neg hc];split at h
   ·rename_i hc
    rw[if_pos hc];obtain⟨hr,hk,_⟩:=b7F h hn;obtain⟨j,rfl⟩:∃ j,n=j+1:=⟨n - 1,by omega⟩;have hr':run (x.drop 1)=j:=by omega
    have htj:=a8I ht;have hry:=b4i hr' htj (by rw[List.length_drop];omega) fun c hc=>by
     have:=hs c (by rw[<- hc,List.getElem?_drop,Nat.add_comm]);unfold a5H at this;rw[hk] at this;simpa using this
    rw[<- h];unfold b1m;rw[hry,hr',htj]
   ·rename_i hc
    rw[if_neg hc];split at h
    ·rename_i hc
     rw[if_pos hc];obtain⟨hq,htk,hnk⟩:=b3h h hn;have hk0:(L1 (x.drop 1)).2≠0:=by
      intro e;rw[e] at hq;cases hq
     have hlk:(L1 (x.drop 1)).2+1<=(x.drop 1).length:=by rw[List.length_drop];omega
     have hlk':(L1 (x.drop 1)).2+1<=(y.drop 1).length:=by rw[List.length_drop];omega
     have htk1:(y.drop 1).take ((L1 (x.drop 1)).2+1)=(x.drop 1).take ((L1 (x.drop 1)).2+1):=a8I (by rw[hnk] at ht;exact ht);have hcp:=c1s rfl hk0 htk1 hlk hlk';rw[<- h];unfold a1o;rw[hcp,hq];have hq':noQ (y.drop 1) (L1 (x.drop 1)).2=false:=by
      rw[b56 _ _ hk0] at hq ⊢;rw[a8z htk1 (by omega)];exact hq
     rw[hq']
    ·rename_i hc
     rw[if_neg hc];obtain⟨htk,hsy,hlx,hcase⟩:=b4d h hn;rcases hcase with rfl | ⟨rfl,h2⟩
     ·unfold a6q
      rw[ht,hsy,show decide (2<=y.length)=true by simpa using hl];rw[htk];rfl
     ·unfold a6q
      have hno:(decide (2<=y.length)&&sym (y.take 2))=false:=by
       cases h2y:decide (2<=y.length) with
       | false=>rfl
       | true=>
        have hly:1 < y.length:=of_decide_eq_true h2y;have hc1:=hs _ (List.getElem?_eq_getElem hly);unfold a5H at hc1;rw[htk] at hc1;have e2:y.take 2=x.take 1++[y[1]]:=by
         rw[List.take_add_one,ht,List.getElem?_eq_getElem hly];rfl
        rw[e2];simpa using hc1
      rw[hno,ht,hsy,show decide (1<=y.length)=true by simpa using hl,htk];rfl
theorem c7e (t:Tok) (n:Nat):a5H t n 32=true:=by
 unfold a5H;split
 ·rfl
 ·split
  ·have:sym (t.text++[32])=false:=by
    match t.text with
    | []=>decide
    | [a]=>show(((a.toNat:Int) != 32)&&(((32:UInt8).toNat:Int) != 32)&&_)=false;simp
    | a::b::l=>cases l <;> rfl
   rw[this];simp
  ·decide
end Go.Lx
namespace Go.Lx
open Go.Ty
set_option maxRecDepth 100000
theorem b1l {P:B->Prop} (h0:P []) (h1:∀ r,P r->P (32::r)) (h2:∀ c r,c≠32->(tok (c::r)).2=0->P (c::r))
 (h3:∀ c r,c≠32->(tok (c::r)).2≠0->P ((c::r).drop (tok (c::r)).2)->P (c::r)):∀ r,P r:=by
 have key:∀ n,∀ r:B,r.length<=n->P r:=by
  intro n;induction n with
  | zero=>intro r hr;cases r with
   | nil=>exact h0
   | cons c r=>simp at hr
  | succ n ih=>
   intro r hr;cases r with
   | nil=>exact h0
   | cons c r=>
    by_cases hc:c=32
    ·subst hc;exact h1 r (ih r (by simpa using hr))
    ·by_cases hn:(tok (c::r)).2=0
     ·exact h2 c r hc hn
     ·exact h3 c r hc hn (ih _ (by rw[List.length_drop];simp only[List.length_cons] at hr ⊢;omega))
 exact fun r=>key r.length r (Nat.le_refl _)
theorem b5n {l:List Tok} {x:Except Nat (List Tok)} {m:List Tok} (h:a8m l x=.ok m):∃ k,x=.ok k/\m=l++k:=by
 cases x with
 | error e=>cases h
 | ok k=>cases h;exact⟨k,rfl,rfl⟩
theorem d2s:∀ (r:B) (p:Nat) (l:List Tok),lx r p=.ok l->∀ t,t ∈ l->(p:Int)<=t.at_/\t.at_ < p+r.length:=by
 refine b1l ?_ ?_ ?_ ?_
 ·intro p l h t ht;cases h;cases ht
 ·intro r ih p l h t ht
  rw[a6E] at h;have:=ih _ _ h t ht;simp only[List.length_cons];omega
 ·intro c r hc hn p l h
  rw[lx_bad hc hn] at h;cases h
 ·intro c r hc hn ih p l h t ht
  rw[lx_tok hc hn] at h;obtain⟨k,hk,rfl⟩:=b5n h;have hle:=b0E (c::r);rcases List.mem_append.1 ht with ht | ht
  ·cases List.mem_singleton.1 ht
   show(p:Int)<=(p:Int)/\(p:Int) < _;simp only[List.length_cons];omega
  ·have:=ih _ _ hk t ht
   rw[List.length_drop] at this;omega
end Go.Lx
namespace Go.Lx
open Go.Ty
set_option maxRecDepth 100000
theorem may_cases {t:Tok} (h:G3 t=true):(t.kind=1/\t.n=0/\name t.text=true)\/(t.kind=2/\t.n=0/\key t.text=true)\/(t.kind=5/\t.n=0/\sym t.text=true)\/(t.kind=4/\t.text=[]/\0<=t.n/\t.n < 256)\/(t.kind=3/\t.text=[]):=by
 unfold G3 at h;split at h
 ·cases h
 ·split at h
  ·rename_i hk;simp at h hk;exact .inl ⟨hk,h.1,h.2⟩
  ·split at h
   ·rename_i hk;simp at h hk;exact .inr (.inl ⟨hk,h.1,h.2⟩)
   ·split at h
    ·rename_i hk;simp at h hk;exact .inr (.inr (.inl ⟨hk,h.1,h.2⟩))
    ·split at h
     ·rename_i hk;simp at h hk;exact .inr (.inr (.inr (.inl ⟨hk,h.1.1,h.1.2,h.2⟩)))
     ·simp at h;exact .inr (.inr (.inr (.inr h)))
theorem c5j {s:B} (h:name s=true):tok s=(⟨1,0,s,0⟩,s.length):=by
 unfold name at h;cases s with
 | nil=>cases h
 | cons c l=>
  simp only[Bool.and_eq_true] at h;obtain⟨⟨⟨⟨_,h32⟩,hl⟩,hr⟩,hk⟩:=h;have hr:run (c::l)=(c::l).length:=by have:=eq_of_beq hr;omega
  unfold tok;rw[a0Z,if_pos hl];unfold a3G;rw[hr,List.take_length,show key (c::l)=false by simpa using hk,show decide (((c::l).length:Int) > 32)=false by simpa using h32];rfl
def c6g (x:B) (t:Tok) (n:Nat):Bool:=eqK (tok x).1 t&&((tok x).2==n)
theorem b7T {x:B} {t:Tok} {n:Nat} (h:c6g x t n=true):tok x=(t,n):=by
 unfold c6g at h;simp only[Bool.and_eq_true,beq_iff_eq,eqK_iff] at h;rw[<- h.1,<- h.2]
theorem c0R:∀ s ∈ b2T,c6g s ⟨2,0,s,0⟩ s.length=true:=by decide +kernel
theorem c0s:∀ s ∈ a60,c6g s ⟨5,0,s,0⟩ s.length=true:=by decide +kernel
theorem b8c:∀ v,v < 256->c6g ([39]++a4A v++[39]) ⟨4,0,[],v⟩ ([39]++a4A v++[39]).length=true:=by decide +kernel
theorem c08:∀ d,d < 16->wch (Q6.getD d 0)=true/\a5N (Q6.getD d 0)=d:=by decide +kernel
theorem b1j (u:Nat):∀ i,∀ c ∈ V2 u i,wch c=true
 | 0,c,h=>by cases h
 | i+1,c,h=>by
  rw[a7C] at h;rcases List.mem_cons.1 h with rfl | h
  ·exact(c08 _ (Nat.mod_lt _ (by decide))).1
  ·exact b1j u i c h
theorem c3l (c:UInt8) (l:B) (v:Int):b0g (c::l) v=if decide (a5N c < 0) then none else b0g l (16 * v+a5N c):=rfl
theorem b2A (u:Nat):∀ (i v:Nat),b0g (V2 u i) v=some ((v * 16 ^ i+u % 16 ^ i:Nat):Int)
 | 0,v=>by simp[V2,b0g,Nat.mod_one]
 | i+1,v=>by
  rw[a7C,c3l,(c08 _ (Nat.mod_lt _ (by decide))).2];rw[if_neg (by rw[decide_eq_true_eq];exact Int.not_lt.2 (Int.natCast_nonneg _))];have:=b2A u i (16 * v+u / 16 ^ i % 16);rw[show(16 * (v:Int)+((u / 16 ^ i % 16:Nat):Int))=((16 * v+u / 16 ^ i % 16:Nat):Int) by simp,this,Nat.mod_pow_succ,Nat.pow_succ];congr 2
  rw[Nat.add_mul,Nat.mul_comm 16 v,Nat.mul_assoc,Nat.mul_comm 16 (16 ^ i),Nat.mul_comm (u / 16 ^ i % 16)];omega
theorem c2b {n:Int} (h:-2147483648<=n/\n<=2147483647):IntKind.i32.wrap (IntKind.u32.wrap n)=n:=by
 unfold IntKind.wrap;simp[IntKind.bits,IntKind.signed];omega
theorem c2u (n:Int):0<=IntKind.u32.wrap n/\IntKind.u32.wrap n < 4294967296:=by
 unfold IntKind.wrap;simp[IntKind.bits,IntKind.signed];omega
theorem c7A {n:Int} (h:-2147483648<=n/\n<=2147483647):tok (V0 n true)=(⟨3,0,[],n⟩,(V0 n true).length):=by
 obtain⟨h1,h2⟩:=c2u n;obtain⟨u,hu⟩:∃ u:Nat,IntKind.u32.wrap n=u:=⟨(IntKind.u32.wrap n).toNat,by omega⟩;have hb:=c2b h;rw[hu] at hb h2;unfold V0;rw[if_pos rfl,hu];simp only[Int.toNat_natCast];have hr:run (V2 u 8)=8:=by
  refine b0j 8 _ (by rw[a1w];exact Nat.le_refl _) (fun c hc=>b1j u 8 c (List.mem_of_mem_take hc)) fun c hc=>?_
  have:=(List.getElem?_eq_some_iff.1 hc).1;rw[a1w] at this;omega
 have hv:a1V (V2 u 8)=((u:Int),true):=by
  unfold a1V;have:=b2A u 8 0;rw[Nat.zero_mul,Nat.zero_add,Nat.mod_eq_of_lt (by omega)] at this;rw[show((0:Nat):Int)=0 from rfl] at this;rw[this];rfl
 unfold tok;rw[a0Z,if_neg (by decide),if_neg (by decide),if_pos (by decide)];unfold b1m;rw[show List.drop 1 (35::V2 u 8)=V2 u 8 from rfl,hr,show(V2 u 8).take 8=V2 u 8 from List.take_of_length_le (by rw[a1w];exact Nat.le_refl _),hv];simp only[hb,List.length_cons,a1w];rfl
theorem b5K:∀ (a b:B) (v:Int),a5V (a++b) v=(a5V a v).bind (a5V b)
 | [],b,v=>rfl
 | c::a,b,v=>by
  show(if !dig c.toNat then none else a5V (a++b) _)=(if !dig c.toNat then none else a5V a _).bind _;split
  ·rfl
  ·exact b5K a b _
theorem a71:∀ d,d < 10->dig (UInt8.ofNat (48+d)).toNat=true/\((UInt8.ofNat (48+d)).toNat:Int) - 48=d:=by decide +kernel
theorem c7x (u:Nat):a5V (Lib.decDigits u) 0=some (u:Int):=by
 induction u using Nat.strongRecOn with
 | _ u ih=>
  unfold Lib.decDigits;split
  ·rename_i h
   obtain⟨h1,h2⟩:=a71 u h;show(if !dig _ then none else some (10 * 0+_))=_;rw[h1,h2];simp
  ·rename_i h
   obtain⟨h1,h2⟩:=a71 (u % 10) (Nat.mod_lt _ (by decide));rw[b5K,ih (u / 10) (by omega)];show(if !dig _ then none else some (10 * ((u / 10:Nat):Int)+_))=_;rw[h1,h2];simp;omega
theorem c8G (u:Nat):∀ c ∈ Lib.decDigits u,dig c.toNat=true:=by
 induction u using Nat.strongRecOn with
 | _ u ih=>
  intro c hc;unfold Lib.decDigits at hc;split at hc
  ·rename_i h;cases List.mem_singleton.1 hc;exact(a71 u h).1
  ·rcases List.mem_append.1 hc with hc | hc
   ·exact ih (u / 10) (by omega) c hc
   ·cases List.mem_singleton.1 hc;exact(a71 (u % 10) (Nat.mod_lt _ (by decide))).1
theorem c2r:∀ (k u:Nat),u < 10 ^ (k+1)->(Lib.decDigits u).length<=k+1
 | 0,u,h=>by
  unfold Lib.decDigits;rw[dif_pos (by simpa using h)];exact Nat.le_refl _
 | k+1,u,h=>by
  unfold Lib.decDigits;split
  ·simp
  ·have:=c2r k (u / 10) (by rw[Nat.pow_succ] at h;omega)
   rw[List.length_append,List.length_singleton];omega
theorem c3F (u:Nat):Lib.decDigits u≠[]:=by
 unfold Lib.decDigits;split <;> simp
theorem c6z {z:Int} (h:dig z=true):ltr z=false:=by
 unfold dig at h;unfold ltr;simp at h ⊢;omega
theorem b8l {s:B} {v:Int} (h0:s≠[]) (hd:∀ c ∈ s,dig c.toNat=true) (hl:s.length<=10) (hv:a5V s 0=some v) (h:0<=v/\v<=2147483647):tok s=(⟨3,0,[],v⟩,s.length):=by
 cases s with
 | nil=>exact absurd rfl h0
 | cons c l=>
  have hr:run (c::l)=(c::l).length:=b0j _ _ (Nat.le_refl _) (fun x hx=>c8k (hd x (List.mem_of_mem_take hx))) fun x hx=>by
   have:=(List.getElem?_eq_some_iff.1 hx).1;omega
  have hc:=hd c List.mem_cons_self;unfold tok;rw[a0Z,c6z hc,if_neg (by decide),if_pos hc];unfold b0b;rw[hr,List.take_length,hv,show decide (((c::l).length:Int) > 10)=false by simp at hl ⊢;omega];simp only[wrap_small (v:=v) ⟨h.1,by omega⟩];simp
theorem c8W {n:Int} (h:0<=n/\n<=2147483647):tok (V0 n false)=(⟨3,0,[],n⟩,(V0 n false).length):=by
 unfold V0 Lib.itoa;rw[if_neg (by decide),if_neg (by omega)];refine b8l (c3F _) (c8G _) (c2r 9 _ (by omega)) ?_ h;rw[c7x];congr 1
 omega
theorem b5V {t:Tok} (h:G3 t=true) (hn:-2147483648<=t.n/\t.n<=2147483647):tok (N8 t)=({ t with at_:=0 },(N8 t).length)/\N8 t≠[]:=by
 obtain⟨kd,p,s,n⟩:=t;rcases may_cases h with ⟨h1,h2,h3⟩ | ⟨h1,h2,h3⟩ | ⟨h1,h2,h3⟩ | ⟨h1,h2,h3,h4⟩ | ⟨h1,h2⟩
 ·simp only at h1 h2 h3;subst h1 h2
  refine⟨c5j h3,?_⟩;show s≠[];rintro rfl;cases h3
 ·simp only at h1 h2 h3;subst h1 h2
  have hm:s ∈ b2T:=(Z9 s _).1 (by rw[c3U] at h3;exact h3);refine⟨b7T (c0R s hm),?_⟩;show s≠[];rintro rfl;cases h3
 ·simp only at h1 h2 h3;subst h1 h2
  have hm:s ∈ a60:=(Z9 s _).1 (by rw[b4S] at h3;exact h3);refine⟨b7T (c0s s hm),?_⟩;show s≠[];rintro rfl;cases h3
 ·simp only at h1 h2 h3 h4;subst h1 h2
  obtain⟨v,rfl⟩:∃ v:Nat,n=v:=⟨n.toNat,by omega⟩;refine⟨b7T (b8c v (by omega)),?_⟩;show[39]++a4A _++[39]≠[];simp
 ·simp only at h1 h2 hn;subst h1 h2
  rw[show N8 ⟨3,p,[],n⟩=V0 n (decide (n < 0)) from rfl];by_cases hneg:n < 0
  ·rw[show decide (n < 0)=true from decide_eq_true hneg]
   refine⟨c7A hn,?_⟩;unfold V0;simp
  ·rw[show decide (n < 0)=false from decide_eq_false hneg]
   refine⟨c8W ⟨by omega,hn.2⟩,?_⟩;unfold V0 Lib.itoa;rw[if_neg (by decide),if_neg hneg];exact c3F _
theorem c9K (r:B):(tok (32::r)).2=0:=by
 unfold tok;rw[a0Z,if_neg (by decide),if_neg (by decide),if_neg (by decide),if_neg (by decide)];unfold a6q;have h1:sym ((32::r).take 2)=false:=by
  cases r with
  | nil=>decide
  | cons a r=>show((((32:UInt8).toNat:Int) != 32)&&((a.toNat:Int) != 32)&&Lib.contains a4W ([32]++[32,a]++[32]))=false;rfl
 have h2:sym ((32::r).take 1)=false:=by show sym [32]=false;decide
 rw[h1,h2,Bool.and_false,Bool.and_false];rfl
theorem c3I:∀ s ∈ a60,Lib.contains b7N s=true->s ∈ [[44],[59],[58],[41],[93]]:=by decide +kernel
theorem b9g:∀ s ∈ a60,Lib.contains b7m s=true->s ∈ [[40],[91]]:=by decide +kernel
theorem b8v:∀ c ∈ [(44:UInt8),59,58,41,93,40,91],wch c=false:=by decide +kernel
theorem c1M:∀ s ∈ a60,∀ c ∈ [(44:UInt8),59,58,41,93],((s.length==2)||!sym (s++[c]))=true:=by decide +kernel
theorem c4B (c:UInt8):(!sym [40,c]&&!sym [91,c])=true:=a0A (p:=fun c=>!sym [40,c]&&!sym [91,c]) (by decide +kernel) c
theorem a9f {t:Tok} {s:B} (h:G3 t=true) (ha:a9A t s=true):t.kind=5/\t.text ∈ a60/\Lib.contains s t.text=true/\N8 t=t.text:=by
 unfold a9A at ha;simp only[Bool.and_eq_true] at ha;have hk:t.kind=5:=by simpa using ha.1
 rcases may_cases h with ⟨h1,_⟩ | ⟨h1,_⟩ | ⟨_,_,h3⟩ | ⟨h1,_⟩ | ⟨h1,_⟩
 ·omega
 ·omega
 ·refine⟨hk,(Z9 _ _).1 (by rw[b4S] at h3;exact h3),ha.2,?_⟩
  unfold N8;rw[hk];rfl
 ·omega
 ·omega
theorem c4U {t u:Tok} (ht:G3 t=true) (hu:G3 u=true) (hg:gap t u=false) {c:UInt8} (hc:(N8 u)[0]?=some c):a5H t (N8 t).length c=true:=by
 unfold gap at hg;simp only[Bool.and_eq_false_iff,Bool.not_eq_false',Bool.or_eq_false_iff,bne_eq_false_iff_eq] at hg;rcases hg with (hg | hg) | ⟨hk1,hg⟩
 ·obtain⟨_,hm,hcn,htx⟩:=a9f hu hg
  rw[htx] at hc;have h5:=c3I _ hm hcn;have hc5:c ∈ [(44:UInt8),59,58,41,93]:=by
   simp only[List.mem_cons,List.not_mem_nil,or_false] at h5;rcases h5 with h5 | h5 | h5 | h5 | h5 <;> rw[h5] at hc <;> cases hc <;> decide
  unfold a5H;split
  ·rfl
  ·split
   ·rename_i hk
    have hk:t.kind=5:=by simpa using hk
    rcases may_cases ht with ⟨h1,_⟩ | ⟨h1,_⟩ | ⟨_,_,h3⟩ | ⟨h1,_⟩ | ⟨h1,_⟩
    ·omega
    ·omega
    ·have e:N8 t=t.text:=by unfold N8;rw[hk];rfl
     rw[e];exact c1M _ ((Z9 _ _).1 (by rw[b4S] at h3;exact h3)) c hc5
    ·omega
    ·omega
   ·rw[b8v c (List.mem_append_left [40,91] hc5)]
    rfl
 ·obtain⟨hk,hm,hcn,htx⟩:=a9f ht hg
  have h2:=b9g _ hm hcn;have ho:=c4B c;simp only[Bool.and_eq_true] at ho;unfold a5H;rw[hk,htx];simp only[List.mem_cons,List.not_mem_nil,or_false] at h2;rcases h2 with h2 | h2
  ·rw[h2]
   show(if (false:Bool)=true then true else if true=true then ((1==2)||!sym [40,c]) else _)=true;rw[ho.1];rfl
  ·rw[h2]
   show(if (false:Bool)=true then true else if true=true then ((1==2)||!sym [91,c]) else _)=true;rw[ho.2];rfl
 ·obtain⟨_,hm,hcn,htx⟩:=a9f hu hg
  rw[htx] at hc;have h2:=b9g _ hm hcn;have hw:wch c=false:=by
   simp only[List.mem_cons,List.not_mem_nil,or_false] at h2;rcases h2 with h2 | h2 <;> rw[h2] at hc <;> cases hc <;> decide
  unfold a5H;rw[hk1,hw];rfl
end Go.Lx
namespace Go.Lx
open Go.Ty
set_option maxRecDepth 100000
def place:Option Tok->Nat->List Tok->List Tok
 | _,_,[]=>[]
 | p,q,t::l=>{ t with at_:=(q+(sep (a5P p t)).length:Nat) }::place (some t) (q+(sep (a5P p t)).length+(N8 t).length) l
def TkN (l:List Tok):Prop:=∀ x,x ∈ l->-2147483648<=x.n/\x.n<=2147483647
theorem c9O (b:Bool) (r:B) (p:Nat):lx (sep b++r) p=lx r (p+(sep b).length):=by
 cases b with
 | false=>rfl
 | true=>exact a6E r p
theorem c01:∀ (l:List Tok) (p:Option Tok) (q:Nat),(∀ x,x ∈ l->G3 x=true)->TkN l->lx (textL p l) q=.ok (place p q l)
 | [],p,q,_,_=>rfl
 | t::l,p,q,hk,hn=>by
  have hkt:=hk t List.mem_cons_self;obtain⟨ht,hne⟩:=b5V hkt (hn t List.mem_cons_self);have ih:=c01 l (some t) (q+(sep (a5P p t)).length+(N8 t).length) (fun x hx=>hk x (List.mem_cons_of_mem _ hx)) (fun x hx=>hn x (List.mem_cons_of_mem _ hx));have hlen:(N8 t).length≠0:=by simpa using hne
  have hdep:tok (N8 t++textL (some t) l)=({ t with at_:=0 },(N8 t).length):=by
   refine c8C ht hlen (by rw[List.take_left,List.take_length]) (by rw[List.length_append];omega) fun c hc=>?_
   rw[List.getElem?_append_right (Nat.le_refl _),Nat.sub_self] at hc;show a5H t (N8 t).length c=true;cases l with
   | nil=>cases hc
   | cons u l=>
    have hku:=hk u (List.mem_cons_of_mem _ List.mem_cons_self);obtain⟨_,hneu⟩:=b5V hku (hn u (List.mem_cons_of_mem _ List.mem_cons_self));have hc:(sep (gap t u)++N8 u++textL (some u) l)[0]?=some c:=hc;cases hg:gap t u with
    | true=>
     rw[hg] at hc;cases hc;exact c7e t _
    | false=>
     rw[hg] at hc;refine c4U hkt hku hg (c:=c) ?_;cases hu:N8 u with
     | nil=>exact absurd hu hneu
     | cons a w=>rw[hu] at hc;exact hc
  show lx (sep (a5P p t)++N8 t++textL (some t) l) q=_;rw[List.append_assoc,c9O];obtain⟨c,w,hcw⟩:∃ c w,N8 t++textL (some t) l=c::w:=by
   cases hx:N8 t with
   | nil=>exact absurd hx hne
   | cons c w=>exact⟨c,w++textL (some t) l,rfl⟩
  have hdrop:(N8 t++textL (some t) l).drop (N8 t).length=textL (some t) l:=List.drop_left;rw[hcw] at hdep hdrop ⊢;have hc32:c≠32:=by
   rintro rfl;have:=c9K w;rw[hdep] at this;exact hlen this
  rw[lx_tok hc32 (by rw[hdep];exact hlen),hdep,hdrop,ih];rfl
theorem b2j:∀ (l:List Tok) (p p':Option Tok) (q:Nat),(∀ u,a5P p' u=a5P p u)->textL p' (place p q l)=textL p l
 | [],_,_,_,_=>rfl
 | t::l,p,p',q,h=>by
  show sep (a5P p' _)++N8 _++textL _ (place _ _ l)=sep (a5P p t)++N8 t++textL (some t) l;rw[b2j l (some t) (some { t with at_:=(q+(sep (a5P p t)).length:Nat) }) (q+(sep (a5P p t)).length+(N8 t).length) (fun u=>rfl),h];cases p <;> rfl
theorem b4c:∀ (l:List Tok) (p:Option Tok) (q:Nat),∀ x,x ∈ place p q l->∃ t,t ∈ l/\x={ t with at_:=x.at_ }
 | [],_,_,x,h=>by cases h
 | t::l,p,q,x,h=>by
  rcases List.mem_cons.1 h with rfl | h
  ·exact⟨t,List.mem_cons_self,rfl⟩
  ·obtain⟨u,hu,e⟩:=b4c l _ _ x h
   exact⟨u,List.mem_cons_of_mem _ hu,e⟩
theorem may_at {t:Tok} (h:G3 t=true) {z:Int} (hz:0<=z/\z < 256):G3 { t with at_:=z }=true:=by
 unfold G3 at h ⊢;split at h
 ·cases h
 ·rw[if_neg (by simp;omega)]
  exact h
theorem text_back {l:List Tok} (hk:∀ x,x ∈ l->G3 x=true) (hn:TkN l) (hl:(textL none l).length<=256):lexO (textL none l)=(place none 0 l,0,0)/\textO (place none 0 l)=(textL none l,0)/\∀ x,x ∈ place none 0 l->G3 x=true:=by
 have h1:=c01 l none 0 hk hn;have hall:∀ x,x ∈ place none 0 l->G3 x=true:=fun x hx=>by
  obtain⟨t,ht,e⟩:=b4c _ _ _ x hx;have:=d2s _ _ _ h1 x hx;rw[e];exact may_at (hk t ht) (by omega)
 refine⟨by rw[a5y (by simp;omega),h1];rfl,?_,hall⟩;have e:=b2j l none none 0 (fun _=>rfl);rw[<- e] at hl;have:=b5T (l:=place none 0 l) (List.any_eq_false.2 fun x hx=>by rw[hall x hx];simp) hl;rw[this,e]
theorem wrap_range (v:Int):-2147483648<=IntKind.i32.wrap v/\IntKind.i32.wrap v<=2147483647:=by
 unfold IntKind.wrap;simp[IntKind.bits,IntKind.signed];omega
theorem c9Y (c:UInt8):chB a3A (esc c).toNat < 256/\0<=chB a3A (esc c).toNat:=by
 unfold chB;have:=(a3A.getD (esc c).toNat 0).toNat_lt;omega
theorem c1P (s:B):0<=(L1 s).1/\(L1 s).1 < 256:=by
 unfold L1;split
 ·exact⟨Int.le_refl 0,show(0:Int) < 256 by decide⟩
 ·split
  ·have:=(s.getD 0 0).toNat_lt
   show 0<=chB s 0/\chB s 0 < 256;unfold chB;omega
  ·split
   ·exact⟨Int.le_refl 0,show(0:Int) < 256 by decide⟩
   ·split
    ·have:=c9Y (s.getD 1 0)
     exact⟨this.2,this.1⟩
    ·split
     ·exact⟨Int.le_refl 0,show(0:Int) < 256 by decide⟩
     ·split
      ·exact⟨Int.le_refl 0,show(0:Int) < 256 by decide⟩
      ·show 0<=(a1V _).1/\(a1V _).1 < 256
       unfold a1V;rw[a6z];cases hv:b0c 16 ((s.drop 2).take 2) 0 with
       | none=>exact⟨Int.le_refl 0,show(0:Int) < 256 by decide⟩
       | some v=>
        have hb:=a3C (by decide) a6L _ 0 v (by decide) hv;have hl:((s.drop 2).take 2).length<=2:=by rw[List.length_take];omega
        have hp:(16:Int) ^ ((s.drop 2).take 2).length<=16 ^ 2:=by exact_mod_cast Nat.pow_le_pow_right (by decide) hl
        simp only;omega
theorem c6X {c:UInt8} {r:B} {t:Tok} {n:Nat} (h:tok (c::r)=(t,n)) (hn:n≠0) {z:Int} (hz:0<=z/\z < 256):G3 { t with at_:=z }=true/\(-2147483648<=t.n/\t.n<=2147483647):=by
 have h0:(decide (z < 0)||decide (z >= 256))=false:=by simp;omega
 unfold tok at h;rw[a0Z] at h;split at h
 ·rename_i hl
  obtain⟨hr,_⟩:=b2p h hn;unfold a3G at h;split at h
  ·rename_i hk
   cases h;refine⟨?_,by show(-2147483648:Int)<=0/\(0:Int)<=2147483647;omega⟩;unfold G3;simp only[h0,hk];rfl
  ·rename_i hk
   split at h
   ·cases h;exact absurd rfl hn
   ·rename_i h32
    cases h;refine⟨?_,by show(-2147483648:Int)<=0/\(0:Int)<=2147483647;omega⟩;unfold G3;simp only[h0,c1w hl (by simpa using hk)];simpa using h32
 ·split at h
  ·obtain⟨_,hk,htx,_⟩:=b6W h hn
   refine⟨?_,?_⟩
   ·unfold G3
    simp only[h0,hk,htx];rfl
   ·unfold b0b at h
    split at h
    ·cases h;exact absurd rfl hn
    ·split at h
     ·cases h;exact absurd rfl hn
     ·split at h
      ·cases h;exact absurd rfl hn
      ·cases h;exact wrap_range _
  ·split at h
   ·obtain⟨_,hk,htx,_⟩:=b7F h hn
    refine⟨?_,?_⟩
    ·unfold G3
     simp only[h0,hk,htx];rfl
    ·unfold b1m at h
     split at h
     ·cases h;exact absurd rfl hn
     ·split at h
      ·cases h;exact absurd rfl hn
      ·cases h;exact wrap_range _
   ·split at h
    ·obtain⟨_,htk,_⟩:=b3h h hn
     have hv:=c1P r;subst htk;refine⟨?_,by show -2147483648<=(L1 r).1/\(L1 r).1<=2147483647;omega⟩;unfold G3;simp only[h0];simp;omega
    ·obtain⟨htk,hsy,_,_⟩:=b4d h hn
     subst htk;refine⟨?_,by show(-2147483648:Int)<=0/\(0:Int)<=2147483647;omega⟩;unfold G3;simp only[h0,hsy];rfl
theorem c7L:∀ s ∈ b2T,s.length<=32:=by decide +kernel
theorem c7W:∀ s ∈ a60,s.length<=32:=by decide +kernel
theorem may_len {t:Tok} (h:G3 t=true):t.text.length<=32:=by
 rcases may_cases h with ⟨_,_,h3⟩ | ⟨_,_,h3⟩ | ⟨_,_,h3⟩ | ⟨_,h3,_⟩ | ⟨_,h3⟩
 ·unfold name at h3
  simp only[Bool.and_eq_true,decide_eq_true_eq] at h3;have:=h3.1.1.1.2;omega
 ·exact c7L _ ((Z9 _ _).1 (by rw[c3U] at h3;exact h3))
 ·exact c7W _ ((Z9 _ _).1 (by rw[b4S] at h3;exact h3))
 ·rw[h3];exact Nat.zero_le _
 ·rw[h3];exact Nat.zero_le _
theorem lx_may:∀ (r:B) (p:Nat) (l:List Tok),lx r p=.ok l->p+r.length<=256->∀ x,x ∈ l->G3 x=true/\(-2147483648<=x.n/\x.n<=2147483647):=by
 refine b1l ?_ ?_ ?_ ?_
 ·intro p l h _ x hx;cases h;cases hx
 ·intro r ih p l h hp x hx
  rw[a6E] at h;exact ih _ _ h (by simp only[List.length_cons] at hp;omega) x hx
 ·intro c r hc hn p l h
  rw[lx_bad hc hn] at h;cases h
 ·intro c r hc hn ih p l h hp x hx
  rw[lx_tok hc hn] at h;obtain⟨k,hk,rfl⟩:=b5n h;have hle:=b0E (c::r);rcases List.mem_append.1 hx with hx | hx
  ·cases List.mem_singleton.1 hx
   exact c6X (show tok (c::r)=((tok (c::r)).1,(tok (c::r)).2) from rfl) hn (z:=(p:Int)) (by simp only[List.length_cons] at hp;omega)
  ·exact ih _ _ hk (by rw[List.length_drop];omega) x hx
end Go.Lx
namespace Go.Lx
open Go.Ty
set_option maxRecDepth 100000
theorem lx_len:∀ (r:B) (p:Nat) (l:List Tok),lx r p=.ok l->l.length<=r.length:=by
 refine b1l ?_ ?_ ?_ ?_
 ·intro p l h;cases h;exact Nat.le_refl _
 ·intro r ih p l h
  rw[a6E] at h;have:=ih _ _ h;simp only[List.length_cons];omega
 ·intro c r hc hn p l h
  rw[lx_bad hc hn] at h;cases h
 ·intro c r hc hn ih p l h
  rw[lx_tok hc hn] at h;obtain⟨k,hk,rfl⟩:=b5n h;have:=ih _ _ hk;have hle:=b0E (c::r);rw[List.length_drop] at this;simp only[List.length_append,List.length_singleton];omega
theorem lexO_ok {s:B} {l:List Tok} {z:Int} (h:lexO s=(l,z,0)):s.length<=256/\lx s 0=.ok l/\z=0:=by
 cases hd:decide ((s.length:Int) > 256) with
 | true=>rw[a7f hd] at h;cases h
 | false=>
  rw[a5y hd] at h;cases hx:lx s 0 with
  | error e=>rw[hx] at h;cases h
  | ok m=>
   rw[hx] at h;cases h;have:=of_decide_eq_false hd;exact⟨by omega,rfl,rfl⟩
theorem lexO_no {s:B} {l:List Tok} {z e:Int} (h:lexO s=(l,z,e)) (he:e≠0):l=[]:=by
 cases hd:decide ((s.length:Int) > 256) with
 | true=>rw[a7f hd] at h;cases h;rfl
 | false=>
  rw[a5y hd] at h;cases hx:lx s 0 with
  | error e=>rw[hx] at h;cases h;rfl
  | ok m=>rw[hx] at h;cases h;exact absurd rfl he
theorem textO_or {l:List Tok} {s:B} {f:Int} (hk:∀ x,x ∈ l->G3 x=true) (h:textO l=(s,f)):(f=3/\s=[]/\l≠[])\/(f=0/\s=textL none l/\s.length<=256):=by
 unfold textO at h;rw[if_neg (by rw[Bool.not_eq_true];exact List.any_eq_false.2 fun x hx=>by rw[hk x hx];simp)] at h;split at h
 ·rename_i hd
  cases h;refine .inl ⟨rfl,rfl,?_⟩;rintro rfl;cases hd
 ·rename_i hd
  cases h;refine .inr ⟨rfl,rfl,?_⟩;simp at hd;omega
end Go.Lx
end
