import Derived.Test.YtkemgjnejlkkcaaGreatDoorLNumbersZ1
import Derived.Laws.StructEq
import Derived.LaidLaws
import Derived.ChangeMaps5
import Derived.Lib.ConvBytes
import Derived.Laws.AppendOwn
import Derived.Lib.AppendIntMem
import Derived.RangeFuncRecord
import Derived.Scope
import Derived.Lib.AppendStr
import Derived.Lib.UnsafeStr
import Derived.Lib.Builder
import Derived.Laws.Externs
import Derived.Recover
import Derived.Defers
import Derived.KernelRfl
import Derived.Lib.IndexMore
import Derived.Lib.Bytealg
import Derived.Lib.IndexBytes
import Derived.Lib.SplitLaws
import Derived.Lib.Join
import Derived.Lib.TrimByte
import Derived.Lib.Repeat
section
namespace Go.Eng
open Go Go.RowKit

theorem b7q {a b:Bool} (h:(a&&b)=true):a=true:=by cases a <;> simp_all
theorem c4N {a b:Bool} (h:(a&&!b)=true):b=false:=by cases a <;> simp_all

theorem G4 {α:Type} [BEq α] [LawfulBEq α] {x y:α} (h:(x==y)=true):x=y:=eq_of_beq h
theorem G3 {α:Type} [BEq α] [LawfulBEq α] {x y:α} (h:(x==y)=false):x≠y:=ne_of_beq_false h
theorem a1p {α:Type} [BEq α] [LawfulBEq α] {x y:α} (h:(x != y)=true):x≠y:=bne_iff_ne.1 h
theorem a1y {α:Type} [BEq α] [LawfulBEq α] {x y:α} (h:(x != y)=false):x=y:=by simpa using h

section
variable {P:Program} {ops:Array Oper} {Q:Exit→Act→World→Prop} {n:Cx} {F:Fm} {h h':List Res} {m:View} {rest:List Oper}
variable {ty:TypeId} {pos:String} {after:Array Edge} {dst:Option Tmp} {g:Option (Nat × Bool)} {d:Nat}

theorem St.back {m m':View} {h:List Res} {w:World} (s:St m' h w) (hm:m.le m'):St m h w:=s.weaken hm (List.Sublist.refl _)

/-- A call whose result does not speak of the view. -/
theorem G0 {f:Operand} {args:List Operand} {tys:Array TypeId} {vs first cap:List Value} {q:FuncId} {R:Value→List Res→Prop} (ef:Ev n F f (.func (.func q) first.toArray cap.toArray)) (ea:Evs n F args vs)
    (c:CT P q (first++vs++cap) h m (fun v _ h'=>R v h')) (hd:d < n.num) (k:∀ v h',R v h'→WL P ops Q n rest ((d,v)::F) h' m) :
    WL P ops Q n (⟨some d,.call ⟨.value f,args.toArray,tys⟩,ty,pos,after,none⟩::rest) F h m:=.mk fun a w ha hs=>by
  refine E6 rfl ?_
  unfold Oper.wp
  rw[R9 ha ef ea c.enter]
  refine Calls.mono (c.calls w hs) ?_
  rintro e w' ⟨v,m',h',rfl,hle,hst,hR⟩
  exact k v h' hR _ _ (ha.put hd v) (hst.back hle)
theorem M7 {f:Operand} {args:List Operand} {tys:Array TypeId} {vs first cap:List Value} {q:FuncId} {v:Value} (ef:Ev n F f (.func (.func q) first.toArray cap.toArray)) (ea:Evs n F args vs)
    (c:CT P q (first++vs++cap) h m (A7 h v)) (hd:d < n.num) (k:WL P ops Q n rest ((d,v)::F) h m) :
    WL P ops Q n (⟨some d,.call ⟨.value f,args.toArray,tys⟩,ty,pos,after,none⟩::rest) F h m:=
  G0 (R:=fun v' h'=>v'=v∧h'=h) ef ea c hd fun _ _ hR=>by obtain⟨rfl,rfl⟩:=hR;exact k

structure GU (ops:Array Oper) (n:Cx) (F:Fm) (g:Nat × Bool) (c:Bool):Prop where
  e:∀ a,Fr n F a→(yielded ops a.tmps g.1==some g.2)=c
theorem a4D {j t:Nat} {a:Act} (hj:a1z ops j=some t) (hc:a.tmps[t]?=some undef):yielded ops a.tmps j=none:=by
  unfold yielded
  unfold a1z at hj
  simp[hj,hc,undef]
theorem GU.t {j t:Nat} {c:Bool} (hj:a1z ops j=some t) (hc:look F t=some (.bool c)):GU ops n F (j,true) c:=⟨fun a ha=>by
  rw[a1l hj (ha.get t _ hc)];cases c <;> rfl⟩
theorem GU.f {j t:Nat} {c:Bool} (hj:a1z ops j=some t) (hc:look F t=some (.bool c)):GU ops n F (j,false) (!c):=⟨fun a ha=>by
  rw[a1l hj (ha.get t _ hc)];cases c <;> rfl⟩
theorem Z1 {j t:Nat} {c b:Bool} (hj:a1z ops j=some t) (hc:look F t=some (gv c (.bool b))):GU ops n F (j,true) (c&&b):=⟨fun a ha=>by
  have h1:=ha.get t _ hc
  cases c with
  | true=>rw[a1l hj h1];cases b <;> rfl
  | false=>rw[a4D hj h1];rfl⟩
theorem a3u {j t:Nat} {c b:Bool} (hj:a1z ops j=some t) (hc:look F t=some (gv c (.bool b))):GU ops n F (j,false) (c&&!b):=⟨fun a ha=>by
  have h1:=ha.get t _ hc
  cases c with
  | true=>rw[a1l hj h1];cases b <;> rfl
  | false=>rw[a4D hj h1];rfl⟩
theorem GU.wanted {op:Op} {gd:Nat × Bool} {c:Bool} (hg:GU ops n F gd c) {a:Act} (ha:Fr n F a):Region.wanted ⟨dst,op,ty,pos,after,some gd⟩ (yielded ops a.tmps)=c:=hg.e a ha

theorem E8 {op:Op} {gd:Nat × Bool} {c:Bool} {v:Value} (hg:GU ops n F gd c) (hp:c=true→PO P ⟨some d,op,ty,pos,after,some gd⟩ n F h m v) (hd:d < n.num) (k:WL P ops Q n rest ((d,gv c v)::F) h m) :
    WL P ops Q n (⟨some d,op,ty,pos,after,some gd⟩::rest) F h m:=.mk fun a w ha hs=>by
  have hy:=hg.wanted (dst:=some d) (op:=op) (ty:=ty) (pos:=pos) (after:=after) ha
  cases c with
  | true=>exact E6 hy (L4 (hp rfl a w ha hs) (k _ _ (ha.put hd v) hs))
  | false=>
    unfold wpList
    rw[if_neg (by rw[hy];decide)]
    exact k _ _ (ha.put hd undef) hs
theorem A8 {f:Operand} {args:List Operand} {tys:Array TypeId} {vs first cap:List Value} {q:FuncId} {gd:Nat × Bool} {c:Bool} {v:Value} (hg:GU ops n F gd c)
    (hp:c=true→Ev n F f (.func (.func q) first.toArray cap.toArray)∧Evs n F args vs∧CT P q (first++vs++cap) h m (A7 h v)) (hd:d < n.num) (k:WL P ops Q n rest ((d,gv c v)::F) h m) :
    WL P ops Q n (⟨some d,.call ⟨.value f,args.toArray,tys⟩,ty,pos,after,some gd⟩::rest) F h m:=.mk fun a w ha hs=>by
  have hy:=hg.wanted (dst:=some d) (op:=.call ⟨.value f,args.toArray,tys⟩) (ty:=ty) (pos:=pos) (after:=after) ha
  cases c with
  | true=>
    obtain⟨ef,ea,ct⟩:=hp rfl
    refine E6 hy ?_
    unfold Oper.wp
    rw[R9 ha ef ea ct.enter]
    refine Calls.mono (ct.calls w hs) ?_
    rintro e w' ⟨v',m',h',rfl,hle,hst,rfl,rfl⟩
    exact k _ _ (ha.put hd _) (hst.back hle)
  | false=>
    unfold wpList
    rw[if_neg (by rw[hy];decide)]
    exact k _ _ (ha.put hd undef) hs
/-- A guard that is known to say yes. -/
theorem c05 {op:Op} {gd:Nat × Bool} {c:Bool} (hg:GU ops n F gd c) (hc:c=true) (k:WL P ops Q n (⟨dst,op,ty,pos,after,none⟩::rest) F h m) :
    WL P ops Q n (⟨dst,op,ty,pos,after,some gd⟩::rest) F h m:=.mk fun a w ha hs=>by
  subst hc
  have hy:=hg.wanted (dst:=dst) (op:=op) (ty:=ty) (pos:=pos) (after:=after) ha
  have:=k a w ha hs
  unfold wpList at this ⊢
  rw[if_pos hy]
  rw[show Region.wanted (⟨dst,op,ty,pos,after,none⟩:Oper) (yielded ops a.tmps)=true from rfl,if_pos rfl] at this
  exact this
/-- A guard that is known to say no. -/
theorem c3D {op:Op} {gd:Nat × Bool} {c:Bool} (hg:GU ops n F gd c) (hc:c=false) (hd:d < n.num) (k:WL P ops Q n rest ((d,undef)::F) h m) :
    WL P ops Q n (⟨some d,op,ty,pos,after,some gd⟩::rest) F h m:=.mk fun a w ha hs=>by
  subst hc
  have hy:=hg.wanted (dst:=some d) (op:=op) (ty:=ty) (pos:=pos) (after:=after) ha
  unfold wpList
  rw[if_neg (by rw[hy];decide)]
  exact k _ _ (ha.put hd undef) hs

theorem R2 {t u:Nat} {c0 c b:Bool} (h0:c0=true) (e:look F t=some (gv c0 (.bool c))) (e1:look F u=some (gv (c0&&c) (.bool b))) :
    PO P ⟨dst,.pick (.tmp t) (.tmp u) (.const (.bool false)),ty,pos,after,g⟩ n F h m (.bool (c&&b)):=by
  subst h0
  exact a4J e (by simpa using e1)
theorem a2T {t u:Nat} {c0 c b:Bool} (h0:c0=true) (e:look F t=some (gv c0 (.bool c))) (e1:look F u=some (gv (c0&&!c) (.bool b))) :
    PO P ⟨dst,.pick (.tmp t) (.const (.bool true)) (.tmp u),ty,pos,after,g⟩ n F h m (.bool (c||b)):=by
  subst h0
  exact a9T e (by simpa using e1)
theorem PO.nilCheck {x:Operand} {a:Addr} (e:Ev n F x (.pointer (some a))):PO P ⟨dst,.nilCheck x,ty,pos,after,g⟩ n F h m (.pointer (some a)):=.mk fun b w hb _=>by
  simp[execOp,e b hb]
theorem PO.min {x y:Operand} {i j:Int} {t:TypeId} (ex:Ev n F x (.int .i64 i)) (ey:Ev n F y (.int .i64 j)) :
    PO P ⟨dst,.call ⟨.builtin .min,#[x,y],#[t,t]⟩,ty,pos,after,g⟩ n F h m (.int .i64 (if j < i then j else i)):=.mk fun b w ha _=>by
  simp[execOp,resolve,invoke,builtin,ex b ha,ey b ha,run_min_int2]

section
variable {eff:List Nat} {t:Tl} {hs hp:List Res} {i:Nat} {s:Tr} {op:Op} {v:Value}
theorem B9 {gd:Nat × Bool} {c:Bool} (ho:ops[i]?=some ⟨some d,op,ty,pos,after,some gd⟩) (he:eff.contains i=false) (hg:GU ops n F gd c)
    (p:c=true→PO P ⟨some d,op,ty,pos,after,some gd⟩ n F hs m v) (hd:d < n.num) (k:SR P ops Q n eff t hs s ((d,gv c v)::F) hp m) :
    SR P ops Q n eff t hs (.op i s) F hp m:=⟨_,ho,fun x hx=>by cases hx;exact hd,by
  rw[he]
  refine⟨gv c v,⟨fun a w ha st=>?_⟩,k.e⟩
  have hy:=hg.wanted (dst:=some d) (op:=op) (ty:=ty) (pos:=pos) (after:=after) ha
  cases c with
  | true=>exact⟨fun _=>p rfl a w ha st,fun h=>by rw[hy] at h;cases h⟩
  | false=>exact⟨fun h=>(by rw[hy] at h;cases h),fun _=>rfl⟩⟩
theorem Upd.right {l h h':List Res} {r r':Res} (u:Upd h r r' h'):Upd (l++h) r r' (l++h'):=by
  induction l with
  | nil=>exact u
  | cons x l ih=>exact .next ih
theorem Upd.left {l h h':List Res} {r r':Res} (u:Upd h r r' h'):Upd (h++l) r r' (h'++l):=by
  induction u with
  | here=>exact .here
  | next _ ih=>exact .next ih
theorem SR.store {x y:Operand} {tt:TypeId} {b off:Nat} {cs cs' vs:List Value} {e:TypeId} {v:Value} {hp':List Res} (ho:ops[i]?=some ⟨none,.store tt x y,ty,pos,after,none⟩) (he:eff.contains i=true)
    (hq:(P.info? tt).map (·.size)=some vs.length) (ex:Ev n F x (.pointer (some ⟨b,off,none⟩))) (ey:Ev n F y v)
    (hvs:Q5 v=some vs) (h1:vs.all (·.oneCell')=true) (h0:vs.isEmpty=false) (hc:a0C cs off vs=some cs')
    (u:Upd hp (.pt b (.cells cs.toArray e (0,0))) (.pt b (.cells cs'.toArray e (0,0))) hp') (k:SR P ops Q n eff t hs s F hp' m):SR P ops Q n eff t hs (.op i s) F hp m:=⟨_,ho,fun x hx=>(by cases hx),by
  rw[he]
  refine⟨fun fr a w ha st=>⟨fun _=>?_,fun h=>by simp[Region.wanted] at h⟩⟩
  have hne:vs≠[]:=by cases vs <;> simp_all
  have e1:=a8E hc
  subst e1
  have h1:∀ u ∈ vs,u.oneCell'=true:=by simpa using h1
  have hvs:=L6 hvs
  subst hvs
  have uu:Upd (fr++(hp++hs)) _ _ (fr++(hp'++hs)):=(u.left).right
  have hb:w.heap[b]?=some (.cells cs.toArray e (0,0)):=st.ok _ uu.mem
  have hr:=run_storeCells_at P b off e v.cells.toList 0 cs.toArray w hb (by have:=a6f hc hne;simpa using this) h1
  have hrun:(execOp a.eval ⟨none,.store tt x y,ty,pos,after,none⟩).run P w=.ok .skip (w.setRow b (cs.take off++v.cells.toList++cs.drop (off+v.cells.toList.length)).toArray):=by
    cases hi:P.info? tt with
    | none=>simp[hi] at hq
    | some i=>
      have e1:i.size=v.cells.size:=by simpa [hi] using hq
      have hr':=hr
      simp only[Nat.add_zero] at hr'
      simp[execOp,ex a ha,ey a ha,Instr.storeAt,Instr.sureAddr,storeVar,sizeOf,typeInfo,hi,e1] at hr' ⊢
      rw[hr'];rfl
  rw[hrun]
  exact⟨m,hp',View.le.refl m,st.setRow uu,nofun,k.e⟩⟩
theorem WL.take {l:List Oper} {r:Res} (dl:Del h r h') (k:WL P ops Q n l F (r::h') m):WL P ops Q n l F h m:=.mk fun a w ha hs=>k a w ha (hs.perm dl.perm)
theorem WC.take {c:Code} {r:Res} (dl:Del h r h') (k:WC P c Q n F (r::h') m):WC P c Q n F h m:=.mk fun a w ha hs=>k a w ha (hs.perm dl.perm)
theorem b9r {f:Operand} {args:List Operand} {tys:Array TypeId} {vs first cap:List Value} {q:FuncId} {v:Value} (ho:ops[i]?=some ⟨some d,.call ⟨.value f,args.toArray,tys⟩,ty,pos,after,none⟩)
    (he:eff.contains i=true) (ef:Ev n F f (.func (.func q) first.toArray cap.toArray)) (ea:Evs n F args vs) (c:∀ fr,CT P q (first++vs++cap) (fr++(hp++hs)) m (A7 (fr++(hp++hs)) v)) (hd:d < n.num)
    (k:SR P ops Q n eff t hs s ((d,v)::F) hp m):SR P ops Q n eff t hs (.op i s) F hp m:=⟨_,ho,fun x hx=>by cases hx;exact hd,by
  rw[he]
  refine⟨fun fr a w ha st=>⟨fun _=>?_,fun h=>by simp[Region.wanted] at h⟩⟩
  rw[R9 ha ef ea (c fr).enter]
  refine Calls.mono ((c fr).calls w st) ?_
  rintro e w' ⟨v,m',h',rfl,hle,hst,rfl,rfl⟩
  exact .inl ⟨_,rfl,m,hp,View.le.refl m,hst.back hle,nofun,k.e⟩⟩
theorem H4 {f:Operand} {args:List Operand} {tys:Array TypeId} {vs first cap:List Value} {q:FuncId} {gd:Nat × Bool} {c:Bool} {v:Value} (ho:ops[i]?=some ⟨some d,.call ⟨.value f,args.toArray,tys⟩,ty,pos,after,some gd⟩)
    (he:eff.contains i=true) (hg:GU ops n F gd c)
    (p:c=true→Ev n F f (.func (.func q) first.toArray cap.toArray)∧Evs n F args vs∧∀ fr,CT P q (first++vs++cap) (fr++(hp++hs)) m (A7 (fr++(hp++hs)) v)) (hd:d < n.num)
    (k:SR P ops Q n eff t hs s ((d,gv c v)::F) hp m):SR P ops Q n eff t hs (.op i s) F hp m:=⟨_,ho,fun x hx=>by cases hx;exact hd,by
  rw[he]
  refine⟨fun fr a w ha st=>?_⟩
  have hy:=hg.wanted (dst:=some d) (op:=.call ⟨.value f,args.toArray,tys⟩) (ty:=ty) (pos:=pos) (after:=after) ha
  cases c with
  | true=>
    refine⟨fun _=>?_,fun h=>by rw[hy] at h;cases h⟩
    obtain⟨ef,ea,ct⟩:=p rfl
    rw[R9 ha ef ea (ct fr).enter]
    refine Calls.mono ((ct fr).calls w st) ?_
    rintro e w' ⟨v',m',h',rfl,hle,hst,rfl,rfl⟩
    exact .inl ⟨_,rfl,m,hp,View.le.refl m,hst.back hle,nofun,k.e⟩
  | false=>exact⟨fun h=>(by rw[hy] at h;cases h),fun _=>⟨nofun,k.e⟩⟩⟩
end

def eqC (d:TypeDesc):Value→Value→Option Bool
  | .bool a,.bool b=>match d with
    | .bool=>some (a==b)
    | _=>none
  | .int k a,.int k' b=>match d with
    | .int _=>if k=k' then some (a==b) else none
    | _=>none
  | .string ⟨⟨a⟩⟩,.string ⟨⟨b⟩⟩=>match d with
    | .string=>some (a==b)
    | _=>none
  | _,_=>none
def b3R (P:Program) (xs ys:List Value):List Field→Option Bool
  | []=>some true
  | f::fs=>match P.underlying f.type with
    | some d=>match M9 d with
      | true=>match xs[f.offset]? with
        | some a=>match ys[f.offset]? with
          | some b=>match eqC d a b with
            | some r=>match b3R P xs ys fs with
              | some q => match (f.name != "_") with
                | true=>some (r&&q)
                | false=>none
              | none=>none
            | none=>none
          | none=>none
        | none=>none
      | false=>none
    | none=>none

theorem b4P (w:World) {d:Nat} {t:TypeId} {ds:TypeDesc} (ht:P.underlying t=some ds) {a b:Value} {r:Bool} (he:eqC ds a b=some r):(Op.equalIn (d+1) t a b).run P w=.ok r w:=by
  unfold eqC at he
  split at he
  · split at he
    · cases he;exact run_equalIn_bool' w d t _ _ ht
    · cases he
  · split at he
    · split at he
      · rename_i hk;subst hk;cases he;exact run_equalIn_int w d t _ _ _ _ ht
      · cases he
    · cases he
  · split at he
    · cases he
      rename_i a b _
      rw[run_equalIn_string w d t _ _ ht,ByteArray.toList_eq,ByteArray.toList_eq]
    · cases he
  · cases he
theorem a5b (w:World) (d:Nat) (xs ys:List Value):∀ {fs:List Field} {r:Bool},b3R P xs ys fs=some r→(Op.eqFields (d+1) xs.toArray ys.toArray fs).run P w=.ok r w
  | [],r,he=>by cases he;simp[Op.eqFields]
  | f::fs,r,he=>by
    unfold b3R at he
    cases h1:P.underlying f.type with
    | none=>simp[h1] at he
    | some ds=>
      simp only[h1] at he
      cases h2:M9 ds with
      | false=>simp[h2] at he
      | true=>
        simp only[h2] at he
        cases h3:xs[f.offset]? with
        | none=>simp[h3] at he
        | some a=>
          simp only[h3] at he
          cases h4:ys[f.offset]? with
          | none=>simp[h4] at he
          | some b=>
            simp only[h4] at he
            cases h5:eqC ds a b with
            | none=>simp[h5] at he
            | some c=>
              simp only[h5] at he
              cases h6:b3R P xs ys fs with
              | none=>simp[h6] at he
              | some q=>
                simp only[h6] at he
                cases h7 : (f.name != "_") with
                | false=>simp[h7] at he
                | true=>
                  simp only[h7,Option.some.injEq] at he
                  subst he
                  have h8 : f.name ≠ "_" := by simpa using h7
                  have ih:=a5b w d xs ys h6
                  have e5:=b4P (P:=P) w (d:=d) h1 h5
                  simp only[Op.eqFields,if_pos h8,Sem.run_bind]
                  have ea:(part f.type xs.toArray f.offset).run P w=.ok a w:=by simp[part,L7 w h1 h2,h3]
                  have eb:(part f.type ys.toArray f.offset).run P w=.ok b w:=by simp[part,L7 w h1 h2,h4]
                  rw[ea,Result.andThen_ok,eb,Result.andThen_ok,e5,Result.andThen_ok]
                  cases c
                  · simp
                  · simpa using ih

theorem a0w {x y:Operand} {t t':TypeId} {fs:Array Field} {as bs:List Value} {r:Bool} (ht:P.underlying t=some (.struct fs)) (hs:P.stoodInHeld t=false) (hm:P.eqGuardType P.depth t=false) (ex:Ev n F x (.agg as.toArray)) (ey:Ev n F y (.agg bs.toArray))
    (hr:b3R P as bs fs.toList=some r):PO P ⟨dst,.binOp .eql t x y t',ty,pos,after,g⟩ n F h m (.bool r):=.mk fun a w ha _=>by
  have hf:P.fieldsOf t=fs:=by simp[Program.fieldsOf,ht]
  have e1:=run_equalIn_struct (P:=P) w 9999 t as.toArray bs.toArray (by rw[hf];exact ht) hs
  rw[hf,a5b w 9998 as bs hr] at e1
  simp[execOp,ex a ha,ey a ha,run_eqGuard_agg w _ t _ _ _ _ hm,run_eql_struct,e1]
theorem b0q {x y:Operand} {t t':TypeId} {fs:Array Field} {as bs:List Value} {r:Bool} (ht:P.underlying t=some (.struct fs)) (hs:P.stoodInHeld t=false) (hm:P.eqGuardType P.depth t=false) (ex:Ev n F x (.agg as.toArray)) (ey:Ev n F y (.agg bs.toArray))
    (hr:b3R P as bs fs.toList=some r):PO P ⟨dst,.binOp .neq t x y t',ty,pos,after,g⟩ n F h m (.bool (!r)):=.mk fun a w ha _=>by
  have hf:P.fieldsOf t=fs:=by simp[Program.fieldsOf,ht]
  have e1:=run_equalIn_struct (P:=P) w 9999 t as.toArray bs.toArray (by rw[hf];exact ht) hs
  rw[hf,a5b w 9998 as bs hr] at e1
  simp[execOp,ex a ha,ey a ha,run_eqGuard_agg w _ t _ _ _ _ hm,run_neq_struct,e1]

def fl {α:Type} (enc:α→List Value) (l:List α):List Value:=l.flatMap enc
section
variable {α:Type} {enc:α→List Value} {sz:Nat}
theorem a3F (l r:List α):fl enc (l++r)=fl enc l++fl enc r:=by simp[fl]
theorem F7 (l:List α) (x:α):fl enc l++enc x=fl enc (l++[x]):=by simp[fl]
theorem a4Y (henc:∀ x,(enc x).length=sz) (l:List α):(fl enc l).length=l.length * sz:=by
  induction l with
  | nil=>simp[fl]
  | cons x l ih=>simp only[fl,List.flatMap_cons,List.length_append,henc,List.length_cons,Nat.add_mul] at ih ⊢;omega
theorem b5q (henc:∀ x,(enc x).length=sz) (l:List α) (k:Nat):(fl enc l).drop (k * sz)=fl enc (l.drop k):=by
  induction l generalizing k with
  | nil=>simp[fl]
  | cons x l ih=>
    cases k with
    | zero=>simp
    | succ k=>
      have:=ih k
      simp only[fl,List.flatMap_cons,List.drop_succ_cons] at this ⊢
      rw[List.drop_append,henc,List.drop_eq_nil_of_le (by rw[henc,Nat.add_mul];omega),List.nil_append,show(k+1) * sz - sz=k * sz by rw[Nat.add_mul];omega,this]
theorem b5m (henc:∀ x,(enc x).length=sz) (l:List α) (k:Nat):(fl enc l).take (k * sz)=fl enc (l.take k):=by
  induction l generalizing k with
  | nil=>simp[fl]
  | cons x l ih=>
    cases k with
    | zero=>simp[fl]
    | succ k=>
      have:=ih k
      simp only[fl,List.flatMap_cons,List.take_succ_cons] at this ⊢
      rw[List.take_append,henc,List.take_of_length_le (by rw[henc,Nat.add_mul];omega),show(k+1) * sz - sz=k * sz by rw[Nat.add_mul];omega,this]
theorem b9F (henc:∀ x,(enc x).length=sz) {l:List α} {q:Nat} {x:α} (hx:l[q]?=some x):∀ j v,(enc x)[j]?=some v→(fl enc l)[q * sz+j]?=some v:=by
  intro j v hj
  have h1:j < sz:=by have:=(List.getElem?_eq_some_iff.1 hj).1;rwa [henc] at this
  have:=a5k (sz:=sz) enc henc l q j h1
  rw[fl,this,hx]
  exact hj
theorem Rd.subF {a:Option Addr} {k cap:Nat} {l:List α} (henc:∀ x,(enc x).length=sz) (s:Rd m h a k cap sz (fl enc l)) {i j:Nat} (h1:i≤j) (h2:j≤k) :
    Rd m h (sl1 a i cap sz) (j - i) (cap - i) sz (fl enc ((l.drop i).take (j - i))):=by
  have:=s.sub h1 h2
  rwa [b5q henc,b5m henc] at this
theorem Rd.takeF {a:Option Addr} {k cap:Nat} {l:List α} (henc:∀ x,(enc x).length=sz) (s:Rd m h a k cap sz (fl enc l)) {j:Nat} (h2:j≤k) :
    Rd m h (sl1 a 0 cap sz) j cap sz (fl enc (l.take j)):=by
  have:=s.subF henc (Nat.zero_le j) h2
  simpa using this
theorem Rd.lenF {a:Option Addr} {k cap:Nat} {l:List α} (henc:∀ x,(enc x).length=sz) (h0:0 < sz) (s:Rd m h a k cap sz (fl enc l)):l.length=k:=by
  have:=s.len
  rw[a4Y henc] at this
  exact Nat.eq_of_mul_eq_mul_right h0 this
theorem Rd.dropF {a:Option Addr} {k cap:Nat} {l:List α} (henc:∀ x,(enc x).length=sz) (h0:0 < sz) (s:Rd m h a k cap sz (fl enc l)) {i:Nat} (h1:i≤k) :
    Rd m h (sl1 a i cap sz) (k - i) (cap - i) sz (fl enc (l.drop i)):=by
  have:=s.subF henc h1 (Nat.le_refl k)
  rwa [List.take_of_length_le (by have:=s.lenF henc h0;simp;omega)] at this
theorem Sl.subF {a:Option Addr} {k cap:Nat} {l:List α} (henc:∀ x,(enc x).length=sz) (s:Sl m a k cap sz (fl enc l)) {i j:Nat} (h1:i≤j) (h2:j≤k) :
    Sl m (sl1 a i cap sz) (j - i) (cap - i) sz (fl enc ((l.drop i).take (j - i))):=by
  have:=s.sub h1 h2
  rwa [b5q henc,b5m henc] at this
end
theorem Rd.nilF {α:Type} (enc:α→List Value) (sz:Nat) (m:View) (h:List Res):Rd m h none 0 0 sz (fl enc []):=⟨by simp[fl],Nat.le_refl _,by omega,fun _ _ j u hj=>by simp[fl] at hj⟩
theorem A5 {α:Type} {l:List α} {k:Nat} (hk:k < l.length):∃ x,l[k]?=some x:=⟨l[k],List.getElem?_eq_getElem hk⟩
theorem take_snoc {α:Type} {l:List α} {k:Nat} {x:α} (hx:l[k]?=some x):l.take (k+1)=l.take k++[x]:=by
  rw[List.take_add_one,hx];rfl

theorem Rd.inRow {a:Option Addr} {k cap sz:Nat} {e:TypeId} {ys:List Value} (hm:Res.row (.slice a k cap) e sz k ys ∈ h) (hl:ys.length=k * sz) (hle:k≤cap) (hmx:cap≤9223372036854775807):Rd m h a k cap sz ys:=Rd.ofRow hl hle hmx hm
theorem a7T {x:Operand} {t:TypeId} {u:TypeDesc} {a:Option Addr} {len cap q:Nat} {bs:List UInt8} {b:UInt8} (ht:P.underlying t=some u) (hp:M9 u=true) (hs:Rd m h a len cap 1 (bv bs))
    (ex:Ev n F x (.pointer (elt a (q * 1)))) (hx:bs[q]?=some b):PO P ⟨dst,.load t x,ty,pos,after,g⟩ n F h m (.int .u8 b.toNat):=
  a7R ht hp hs ex (by rw[Nat.mul_one];exact b9R hx)
theorem b6k {α:Type} {enc:α→List Value} {x:Operand} {t:TypeId} {u:TypeDesc} {a:Option Addr} {len cap q:Nat} {l:List α} {y:α} {v:Value} (ht:P.underlying t=some u) (hp:M9 u=true) (henc:∀ x,(enc x).length=1) (hs:Rd m h a len cap 1 (fl enc l))
    (ex:Ev n F x (.pointer (elt a (q * 1)))) (hx:l[q]?=some y) (hv:enc y=[v]):PO P ⟨dst,.load t x,ty,pos,after,g⟩ n F h m v:=
  a7R ht hp hs ex (by have:=b9F henc hx 0 v (by rw[hv];rfl);simpa using this)
theorem a3W {α:Type} {enc:α→List Value} {x:Operand} {t:TypeId} {u:TypeDesc} {a:Option Addr} {len cap q sz:Nat} {l:List α} {y:α} {vs:List Value} (ht:P.underlying t=some u) (hp:M9 u=false) (hq:(P.info? t).isSome=true) (henc:∀ x,(enc x).length=sz)
    (hs:Rd m h a len cap sz (fl enc l)) (ex:Ev n F x (.pointer (elt a (q * sz)))) (hx:l[q]?=some y) (hv:enc y=vs) (hl:P.cellsOf t=vs.length) (h0:0 < vs.length):PO P ⟨dst,.load t x,ty,pos,after,g⟩ n F h m (.agg vs.toArray):=
  b5W ht hp hq hs ex hl h0 (fun j v hj=>b9F henc hx j v (by rw[hv];exact hj))
theorem F8 {α:Type} {enc:α→List Value} {x:Operand} {t:TypeId} {u:TypeDesc} {a:Option Addr} {len cap q sz o:Nat} {l:List α} {y:α} {v:Value} (ht:P.underlying t=some u) (hp:M9 u=true) (henc:∀ x,(enc x).length=sz) (hs:Rd m h a len cap sz (fl enc l))
    (ex:Ev n F x (.pointer (elt a (q * sz+o)))) (hx:l[q]?=some y) (hv:(enc y)[o]?=some v):PO P ⟨dst,.load t x,ty,pos,after,g⟩ n F h m v:=
  a7R ht hp hs ex (b9F henc hx o v hv)
theorem b4u {ys:List Value} (h:ys.all (·.oneCell')=true):∀ u ∈ ys,u.oneCell'=true:=by simpa using h
theorem b5A {α:Type} {enc:α→List Value} (h:∀ x,(enc x).all (·.oneCell')=true) (l:List α):∀ u ∈ fl enc l,u.oneCell'=true:=by
  intro u hu
  simp only[fl,List.mem_flatMap] at hu
  obtain⟨x,_,hx⟩:=hu
  exact b4u (h x) u hx

def eqL {α:Type} (e:α→α→Bool):List α→List α→Bool
  | [],[]=>true
  | x::xs,y::ys=>e x y&&eqL e xs ys
  | _,_=>false
theorem Q4 {α:Type} (e:α→α→Bool):∀ (xs ys:List α),xs.length≠ys.length→eqL e xs ys=false
  | [],[],h=>absurd rfl h
  | [],_::_,_=>rfl
  | _::_,[],_=>rfl
  | x::xs,y::ys,h=>by rw[eqL,Q4 e xs ys (by simpa using h),Bool.and_false]
theorem O2 {α:Type} (e:α→α→Bool) {xs ys:List α} {k:Nat} {x y:α} (hx:xs[k]?=some x) (hy:ys[k]?=some y):eqL e (xs.drop k) (ys.drop k)=(e x y&&eqL e (xs.drop (k+1)) (ys.drop (k+1))):=by
  obtain⟨h1,rfl⟩:=List.getElem?_eq_some_iff.1 hx
  obtain⟨h2,rfl⟩:=List.getElem?_eq_some_iff.1 hy
  rw[List.drop_eq_getElem_cons h1,List.drop_eq_getElem_cons h2,eqL]
theorem b0A {α:Type} {e:α→α→Bool} (he:∀ x y,e x y=true↔x=y):∀ {xs ys:List α},eqL e xs ys=true↔xs=ys
  | [],[]=>by simp[eqL]
  | [],_::_=>by simp[eqL]
  | _::_,[]=>by simp[eqL]
  | x::xs,y::ys=>by simp[eqL,he,b0A he]
/-- A slice of the call's own, over everything that was owned before. -/
def b3v {α:Type} (enc:α→List Value) (e sz:Nat) (h:List Res) (xs:List α):Value→List Res→Prop:=fun v h'=>∃ a c k,k=xs.length∧v=.slice a k c∧h'=.row (.slice a k c) e sz k (fl enc xs)::h

theorem b5c {x i:Operand} {t e len:Nat} {b off sz q:Nat} {k:IntKind} {j:Int} (ht:P.underlying t=some (.array len e)) (hsz:(P.info? e).map (·.size)=some sz)
    (ex:Ev n F x (.pointer (some ⟨b,off,none⟩))) (ei:Ev n F i (.int k j)) (hj:j=(q:Int)) (hq:q < len) :
    PO P ⟨dst,.indexAddr t x i,ty,pos,after,g⟩ n F h m (.pointer (some ⟨b,off+q * sz,none⟩)):=.mk fun c w ha st=>by
  subst hj
  cases hi:P.info? e with
  | none=>simp[hi] at hsz
  | some i0=>
    have e1:i0.size=sz:=by simpa [hi] using hsz
    have e2:(q:Int) < len:=by omega
    simp[execOp,ex c ha,ei c ha,Instr.indexAt,asIntOf,Instr.sureAddr,run_underlying ht,sizeOf,typeInfo,hi,e1,hq,Addr.add_lit]
theorem a3P {t e len sz:Nat} {ps:List (Nat × Operand)} {vs:List (Nat × Value)} {z:Value} {zs cs:List Value} (ht:P.underlying t=some (.array len e)) (hsz:(P.info? e).map (·.size)=some sz)
    (hz:(P.info? t).bind (·.zero)=some z) (hzs:Q5 z=some zs) (ev:EvP n F ps vs) (hf:a3r (fun i=>some (i * sz,sz)) zs vs=some cs):PO P ⟨dst,.build t ps.toArray,ty,pos,after,g⟩ n F h m (.agg cs.toArray):=.mk fun f w hf' _=>by
  have hfill:=a0x hf
  have em:(ps.toArray.map fun (i,x)=>(i,f.eval x))=vs.toArray:=by
    rw[List.map_toArray];exact congrArg List.toArray (ev.map hf')
  have hzc:z.cells=zs.toArray:=by rw[← L6 hzs]
  simp only[execOp]
  rw[em]
  have hrun:(Instr.build t vs.toArray).run P w=.ok (.agg cs.toArray) w:=by
    cases hi:P.info? t with
    | none=>simp[hi] at hz
    | some i=>
      cases hi2:P.info? e with
      | none=>simp[hi2] at hsz
      | some i2=>
        have hz':i.zero=some z:=by simpa [hi] using hz
        have hs':i2.size=sz:=by simpa [hi2] using hsz
        simp only[Instr.build,zeroValue,sizeOf,typeInfo,Sem.run_bind,run_program,Result.andThen_ok,hi,hi2,Sem.run_pure,hz',run_underlying ht,hs',hzc]
        simp only[hfill]
        rfl
  simp[hrun]
/-- The whole of an array as a slice. -/
theorem b2X {x:Operand} {t e len:Nat} {b sz:Nat} (ht:P.underlying t=some (.array len e)) (hsz:(P.info? e).map (·.size)=some sz) (h0:0 < len)
    (ex:Ev n F x (.pointer (some ⟨b,0,none⟩))):PO P ⟨dst,.slice t x none none none,ty,pos,after,g⟩ n F h m (.slice (some ⟨b,0,none⟩) len len):=.mk fun c w ha st=>by
  cases hi:P.info? e with
  | none=>simp[hi] at hsz
  | some i0=>
    have h1:len≠0:=by omega
    simp[execOp,ex c ha,Instr.sliceAt,Instr.sureAddr,run_underlying ht,Instr.sliceBounds,sizeOf,typeInfo,hi,Addr.add_lit]
/-- A store of one cell at any place of a block. -/
theorem b61 {x y:Operand} {t:TypeId} {b off:Nat} {cs:List Value} {e:TypeId} {v:Value} (hq:(P.info? t).map (·.size)=some 1) (ex:Ev n F x (.pointer (some ⟨b,off,none⟩))) (ey:Ev n F y v)
    (hvs:Q5 v=some [v]) (h1:v.oneCell'=true) (hl:off < cs.length)
    (u:Upd h (.pt b (.cells cs.toArray e (0,0))) (.pt b (.cells (cs.set off v).toArray e (0,0))) h') (k:WL P ops Q n rest F h' m) :
    WL P ops Q n (⟨none,.store t x y,ty,pos,after,none⟩::rest) F h m:=by
  refine a9S (vs:=[v]) (cs:=cs) (e:=e) hq ex ey (L6 hvs) (by simpa using h1) hl ?_ k
  have:cs.take off++[v]++cs.drop (off+[v].length)=cs.set off v:=by
    rw[List.set_eq_take_append_cons_drop,if_pos hl];simp
  rw[this]
  exact u

/-- The cells of a block are what they are said to be. -/
theorem c3T {l:List Oper} {b:Nat} {cs cs':List Value} {e:TypeId} {fz:Nat × Nat} (he:cs=cs') (u:Upd h (.pt b (.cells cs.toArray e fz)) (.pt b (.cells cs'.toArray e fz)) h') (k:WL P ops Q n l F h' m):WL P ops Q n l F h m:=
  WL.conv u rfl (fun w hw=>by subst he;exact hw) k
/-- append; what the slice holds then is said in one's own words. -/
theorem b3p {x y:Operand} {t e:TypeId} {sz by_ l cap k c l':Nat} {a b:Option Addr} {xs ys zs:List Value} {hq:Value→List Res} (E:EL P t e sz by_) (ex:Ev n F x (.slice a l cap)) (ey:Ev n F y (.slice b k c))
    (rd:Rd m h b k c sz ys) (h1:∀ u ∈ ys,u.oneCell'=true) (hl:l+k=l') (hz:xs++ys=zs) (h63:l'≤9223372036854775807) (hbytes:l' * by_≤140737488355328)
    (u:∀ v',Upd h (.row (.slice a l cap) e sz l xs) (.row v' e sz l' zs) (hq v')) (hd:d < n.num) (kk:∀ a' cap',WL P ops Q n rest ((d,.slice a' l' cap')::F) (hq (.slice a' l' cap')) m) :
    WL P ops Q n (⟨some d,.call ⟨.builtin .append,#[x,y],#[t,t]⟩,ty,pos,after,none⟩::rest) F h m:=by
  subst hl hz
  exact WL.append E ex ey rd h1 h63 hbytes u hd kk

theorem WL.val {l:List Oper} {d:Nat} {v v':Value} (e:v=v') (k:WL P ops Q n l ((d,v')::F) h m):WL P ops Q n l ((d,v)::F) h m:=e ▸ k

theorem Sub.app {F A B:Fm} (ha:Sub F A) (hb:Sub F B):Sub F (A++B):=by
  induction ha with
  | nil=>exact hb
  | cons h _ ih=>exact .cons h ih
theorem Sub.ofKeep {F:Fm}:∀ {ts:List Nat} {F':Fm},a3w F ts=some F'→Sub F F'
  | [],F',h=>by simp only[a3w,Option.some.injEq] at h;subst h;exact .nil
  | s::ts,F',h=>by
    simp only[a3w] at h
    cases h2:a3w F ts with
    | none=>simp[h2] at h
    | some r=>
      cases h1:Eng.look F s with
      | none=>simp only[h1,h2,Option.some.injEq] at h;subst h;exact Sub.ofKeep h2
      | some u=>simp only[h1,h2,Option.some.injEq] at h;subst h;exact .cons h1 (Sub.ofKeep h2)
def b7h:Fm→Fm→Option Fm
  | [],r=>some r
  | x::l,r=>match b7h l r with
    | some t=>some (x::t)
    | none=>none
theorem b5b:∀ {l r t:Fm},b7h l r=some t→l++r=t
  | [],r,t,h=>by simp only[b7h,Option.some.injEq] at h;exact h
  | x::l,r,t,h=>by
    simp only[b7h] at h
    cases h1:b7h l r with
    | none=>simp[h1] at h
    | some q=>simp only[h1,Option.some.injEq] at h;subst h;simp[b5b h1]
theorem B3 {c:Code} {A B G:Fm} (hG:b7h A B=some G) (k:WC P c Q n G h m):WC P c Q n (A++B) h m:=b5b hG ▸ k
theorem B1 {c:Code} (inv:List Nat) {Fi:Fm} (hk:a3w F inv=some Fi) (J:Nat→Fm→List Res→Prop) (μ:Nat) (F0:Fm) (hsub:Sub F F0) {h0:List Res} (hh:h0.Sublist h) (hJ:J μ F0 h0)
    (round:∀ μ F' h',J μ F' h'→WC P c (Exit.then (fun a w=>∃ μ' F'' h'',μ' < μ∧J μ' F'' h''∧Fr n (F''++Fi) a∧St m h'' w) Q) n (F'++Fi) h' m) :
    WC P (.loop c) Q n F h m:=by
  refine WC.drop hh (WC.loop (fun μ G h' m'=>∃ F',G=F'++Fi∧J μ F' h'∧m'=m) μ (F0++Fi) (hsub.app (Sub.ofKeep hk)) ⟨F0,rfl,hJ,rfl⟩ ?_)
  rintro μ G h' m' ⟨F',rfl,hJ,rfl⟩
  refine .mk fun a w ha hs=>wpIn_mono ((round μ F' h' hJ).e a w ha hs) fun e a' w' hq=>?_
  cases e with
  | normal=>
    obtain⟨μ',F'',h'',hlt,hJ',hf,hst⟩:=hq
    exact⟨μ',F''++Fi,h'',m',hlt,⟨F'',rfl,hJ',rfl⟩,hf,hst⟩
  | _=>exact hq
theorem A6 {J:Nat→Fm→List Res→Prop} {Fi:Fm} {μ:Nat} (μ':Nat) (F'':Fm) {h'':List Res} (hlt:μ' < μ) (hs:Sub F F'') (hi:Sub F Fi) (hh:h''.Sublist h) (hJ:J μ' F'' h'') :
    ∀ a w,Fr n F a→St m h w→∃ μ' F'' h'',μ' < μ∧J μ' F'' h''∧Fr n (F''++Fi) a∧St m h'' w:=
  fun _ _ ha st=>⟨μ',F'',h'',hlt,hJ,ha.sub (hs.app hi).look,st.sub hh⟩
theorem Sub.consE {F r:Fm} {t:Nat} {u v:Value} (hl:Eng.look F t=some u) (e:u=v) (k:Sub F r):Sub F ((t,v)::r):=.cons (e ▸ hl) k

/-- Two ways meet: J says what holds then. -/
theorem c6q {x y:Code} (J:Fm→List Res→Prop) (k1:WC P x (Exit.then (fun a w=>∃ F' h',J F' h'∧Fr n F' a∧St m h' w) Q) n F h m)
    (k2:∀ F' h',J F' h'→WC P y Q n F' h' m):WC P (.seq x y) Q n F h m:=.mk fun a w ha hs=>by
  refine wpIn_seq (wpIn_mono (k1.e a w ha hs) fun e a' w' hq=>?_)
  cases e with
  | normal=>
    obtain⟨F',h',hJ,hf,hst⟩:=hq
    exact(k2 F' h' hJ).e a' w' hf hst
  | _=>exact hq
theorem c6C {J:Fm→List Res→Prop} (F':Fm) {h'':List Res} (hs:Sub F F') (hh:h''.Sublist h) (hJ:J F' h'') :
    ∀ a w,Fr n F a→St m h w→∃ F' h',J F' h'∧Fr n F' a∧St m h' w:=
  fun _ _ ha st=>⟨F',h'',hJ,ha.sub hs.look,st.sub hh⟩
/-- Two ways meet; the slots of `inv` hold what they held ahead of the parting. -/
theorem H7 {x y:Code} {K:Act→World→Prop} (hK:∀ ds F h m,WC P y Q { n with ds:=ds } F h m→∀ a w,Fr { n with ds:=ds } F a→St m h w→K a w) (inv:List Nat) {Fi:Fm} (hk:a3w F inv=some Fi) (J:Fm→List Res→Prop)
    (k1:WC P x (Exit.then (fun a w=>∃ F' h',J F' h'∧Fr n (F'++Fi) a∧St m h' w) Q) n F h m)
    (k2:∀ F' h',J F' h'→WC P y Q n (F'++Fi) h' m):WC P x (Exit.then K Q) n F h m:=.mk fun a w ha hs=>by
  have _:=hk
  refine wpIn_mono (k1.e a w ha hs) fun e a' w' hq=>?_
  cases e with
  | normal=>
    obtain⟨F',h',hJ,hf,hst⟩:=hq
    exact hK n.ds _ _ _ (k2 F' h' hJ) a' w' hf hst
  | _=>exact hq
theorem D0 {J:Fm→List Res→Prop} {Fi:Fm} (F'':Fm) {h'':List Res} (hs:Sub F F'') (hi:Sub F Fi) (hh:h''.Sublist h) (hJ:J F'' h'') :
    ∀ a w,Fr n F a→St m h w→∃ F' h',J F' h'∧Fr n (F'++Fi) a∧St m h' w:=
  fun _ _ ha st=>⟨F'',h'',hJ,ha.sub (hs.app hi).look,st.sub hh⟩
end
end Go.Eng

namespace Go.Eng
open Go Go.RowKit Go.ChangeShapes Go.WideShapes Go.ChangeAt Go.Joins

theorem a3Q {α β:Type} {f:α→Option β}:∀ {l:List α} {xs:List β},l.mapM f=some xs→xs.length=l.length∧∀ (i:Nat) (a:α),l[i]?=some a→∃ y,xs[i]?=some y∧f a=some y
  | [],xs,h=>by simp at h;subst h;simp
  | b::l,xs,h=>by
    simp only[List.mapM_cons] at h
    cases h1:f b with
    | none=>simp[h1] at h
    | some y=>
      cases h2:l.mapM f with
      | none=>simp[h1,h2] at h
      | some ys=>
        simp[h1,h2] at h
        subst h
        obtain⟨e,k⟩:=a3Q h2
        refine⟨by simp[e],fun i a hi=>?_⟩
        cases i with
        | zero=>simp at hi;subst hi;exact⟨y,rfl,h1⟩
        | succ i=>simpa using k i a (by simpa using hi)

section
variable {H:Type} {enc:TypeId × Value→H} {P:Program} {W:World} {held:Bool} {P8:Nat} {t:TypeId} {cs:List Value} {x:DataW H × List MemPlace}
abbrev RdT (enc:TypeId × Value→H) (P:Program) (W:World) (held:Bool) (P8:Nat) (t:TypeId) (cs:List Value) (x:DataW H × List MemPlace):Prop:=DataW.trod enc P W 0 (fun _=>true) held P8 t cs=some x

theorem b4d (h:RdT enc P W held P8 t cs x):∃ f,P8=f+1:=by
  cases P8 with
  | zero=>simp[RdT,DataW.trod] at h
  | succ f=>exact⟨f,rfl⟩
theorem b7F {k:IntKind} (ht:P.underlying t=some (.int k)) (h:RdT enc P W held P8 t cs x):∃ n,cs=[.int k n]∧(Lit.int k n).wf=true:=by
  obtain⟨f,rfl⟩:=b4d h
  unfold RdT DataW.trod at h
  rw[ht] at h
  split at h <;> simp_all
theorem a43 {a:Addr} {n:Nat} {cs:List Value} (h:W.cells? 0 a n=some cs):cs.length=n∧∀ j v,cs[j]?=some v→W.cell? (a.add j)=some v:=by
  unfold World.cells? at h
  rw[if_pos (Nat.zero_le _)] at h
  obtain⟨h1,h2⟩:=a3Q h
  rw[List.length_range] at h1
  refine⟨h1,fun j v hj=>?_⟩
  have hlt:j < n:=by rw[← h1];exact(List.getElem?_eq_some_iff.1 hj).1
  obtain⟨y,e1,e2⟩:=h2 j j (by simp[hlt])
  rw[hj] at e1
  cases e1
  exact e2
theorem b8z {e:TypeId} (ht:P.underlying t=some (.slice e)) (h:RdT enc P W held P8 t cs x) :
    cs=[.slice none 0 0]∨∃ a n c f,cs=[.slice (some a) n c]∧P8=f+1∧n≤c∧c≤maxLen∧∀ i,i < c→∃ ys y,W.cells? 0 (a.add (i * P.cellsOf e)) (P.cellsOf e)=some ys∧RdT enc P W held f e ys y:=by
  rcases DataW.trod_slice ht h with ⟨rfl,_⟩ | ⟨a,n,c,el,rs,f,rfl,rfl,_,_,h1,h2,h3,h4,h5,_⟩
  · exact .inl rfl
  · refine .inr ⟨a,n,c,f,rfl,rfl,h1,h2,fun i hi=>?_⟩
    obtain⟨h6,h7⟩:=h5 rfl
    have key:∀ i (z:DataW H × List MemPlace),(W.cells? 0 (a.add (i * P.cellsOf e)) (P.cellsOf e)).bind (DataW.trod enc P W 0 (fun _=>true) held f e)=some z→∃ ys y,W.cells? 0 (a.add (i * P.cellsOf e)) (P.cellsOf e)=some ys∧RdT enc P W held f e ys y:=by
      intro i z hi
      cases hc:W.cells? 0 (a.add (i * P.cellsOf e)) (P.cellsOf e) with
      | none=>rw[hc] at hi;cases hi
      | some ys=>rw[hc] at hi;exact⟨ys,z,rfl,hi⟩
    rcases Nat.lt_or_ge i n with h' | h'
    · exact key i _ ((h4 i h').trans (List.getElem?_eq_getElem (by omega)))
    · have:=h7 (i - n) (by omega)
      rw[show n+(i - n)=i by omega] at this
      exact key i _ (this.trans (List.getElem?_eq_getElem (by omega)))

theorem a3z {α:Type} {p:Nat→α→Prop}:∀ n,(∀ i,i < n→∃ x,p i x)→∃ l:List α,l.length=n∧∀ i x,l[i]?=some x→p i x
  | 0,_=>⟨[],rfl,fun i x h=>by simp at h⟩
  | n+1,h=>by
    obtain⟨l,h1,h2⟩:=a3z n fun i hi=>h i (by omega)
    obtain⟨x,hx⟩:=h n (by omega)
    refine⟨l++[x],by simp[h1],fun i y hi=>?_⟩
    rcases Nat.lt_or_ge i n with h' | h'
    · rw[List.getElem?_append_left (by omega)] at hi;exact h2 i y hi
    · have:i=n:=by
        have:=(List.getElem?_eq_some_iff.1 hi).1
        simp at this;omega
      subst this
      rw[← h1] at hi
      simp at hi
      subst hi;rw[h1] at *;exact hx

/-- A slice of elements that read as α's. -/
theorem c4F {α:Type} {Pr:α→Prop} {enc':α→List Value} {e sz:Nat} (ht:P.underlying t=some (.slice e)) (hsz:P.cellsOf e=sz) (hpos:0 < sz) (henc:∀ x,(enc' x).length=sz)
    (hdec:∀ f ys y,RdT enc P W held f e ys y→∃ z,ys=enc' z∧Pr z) (h:RdT enc P W held P8 t cs x) :
    ∃ a n c l,cs=[.slice a n c]∧l.length=n∧Sl (W0 W) a n c sz (fl enc' l)∧∀ z ∈ l,Pr z:=by
  rcases b8z ht h with rfl | ⟨a,n,c,f,rfl,rfl,h1,h2,h3⟩
  · exact⟨none,0,0,[],rfl,rfl,Sl.nil _ _,fun _ h=>by cases h⟩
  · rw[hsz] at h3
    have h4:∀ i,i < n→∃ z,W.cells? 0 (a.add (i * sz)) sz=some (enc' z)∧Pr z:=fun i hi=>by
      obtain⟨ys,y,e1,e2⟩:=h3 i (by omega)
      obtain⟨z,rfl,hz⟩:=hdec f ys y e2
      exact⟨z,e1,hz⟩
    obtain⟨l,hl,hp⟩:=a3z n h4
    refine⟨some a,n,c,l,rfl,hl,⟨by rw[a4Y henc,hl],h1,by unfold maxLen at h2;omega,fun j v hj=>?_⟩,fun z hz=>?_⟩
    · have hjl:j < n * sz:=by have:=(List.getElem?_eq_some_iff.1 hj).1;rwa [a4Y henc,hl] at this
      have hq:j / sz < n:=Nat.div_lt_of_lt_mul (by rwa [Nat.mul_comm] at hjl)
      obtain⟨z,hz⟩:=A5 (l:=l) (k:=j / sz) (by omega)
      have hm:j % sz < sz:=Nat.mod_lt _ hpos
      have hj2:(enc' z)[j % sz]?=some v:=by
        have:=a5k (sz:=sz) enc' henc l (j / sz) (j % sz) hm
        rw[Nat.mul_comm,Nat.div_add_mod,hz] at this
        unfold fl at hj
        rw[hj] at this
        exact this.symm
      obtain⟨hc,_⟩:=hp _ z hz
      have hcell:=(a43 hc).2 _ v hj2
      have hsp:a.spot=none:=by
        obtain⟨z0,hz0⟩:=A5 (l:=l) (k:=0) (by rw[hl];exact Nat.lt_of_le_of_lt (Nat.zero_le _) hq)
        obtain⟨v0,hv0⟩:=A5 (l:=enc' z0) (k:=0) (by rw[henc];omega)
        have h0:=(a43 (hp _ z0 hz0).1).2 _ v0 hv0
        have e0:(a.add (0 * sz)).add 0=a:=by simp[Addr.add]
        rw[e0] at h0
        unfold World.cell? at h0
        split at h0
        · cases hs:a.spot with
          | none=>rfl
          | some q=>rw[hs] at h0;cases h0
        · cases h0
      obtain⟨b,off,sp⟩:=a
      cases hsp
      refine⟨b,off,rfl,?_⟩
      rw[Addr.add_lit,Addr.add_lit,Nat.add_assoc,show j / sz * sz+j % sz=j by rw[Nat.mul_comm,Nat.div_add_mod]] at hcell
      exact T9 hcell
    · obtain⟨i,hi⟩:=List.getElem?_of_mem hz
      exact(hp i z hi).2
end
end Go.Eng

namespace Go.Eng
open Go Go.RowKit

/-- The entries of a map whose keys are the ints ks, each with true. -/
structure MapI (es:Array MapEntry) (ks:List Int):Prop where
  a:∀ e ∈ es.toList,∃ n,e.key=.int .i64 n∧e.val=.bool true∧n ∈ ks
  b:∀ n ∈ ks,∃ e ∈ es.toList,e.key=.int .i64 n
theorem MapI.nil:MapI #[] []:=⟨fun e h=>by simp at h,fun n h=>by cases h⟩

section
variable {P:Program} {ops:Array Oper} {Q:Exit→Act→World→Prop} {n:Cx} {F:Fm} {h h':List Res} {m:View} {rest:List Oper}
variable {ty:TypeId} {pos:String} {after:Array Edge} {dst:Option Tmp} {g:Option (Nat × Bool)} {d:Nat}

theorem St.setObj {w:World} {b:Nat} {o o':Obj} (s:St m h w) (u:Upd h (.pt b o) (.pt b o') h'):St m h' { w with heap:=w.heap.setIfInBounds b o' }:=by
  have hb:w.heap[b]?=some o:=s.ok _ u.mem
  have hlt:=Y6 hb
  refine s.upd u rfl rfl rfl (fun k _ hk=>?_) ?_ (fun k hk=>.inl hk)
  · have:b≠k:=fun e=>hk (by rw[e];rfl)
    simp[Array.getElem?_setIfInBounds_ne this]
  · show({ w with heap:=w.heap.setIfInBounds b o' }:World).heap[b]?=some o'
    simp[hlt]

theorem WL.makeMap {t:TypeId} (hd:d < n.num) (k:∀ b,WL P ops Q n rest ((d,.map (some b))::F) (.pt b (.map #[] 0)::h) m) :
    WL P ops Q n (⟨some d,.makeMap t none,ty,pos,after,none⟩::rest) F h m:=.mk fun a w ha hs=>by
  have hrun:(execOp a.eval ⟨some d,.makeMap t none,ty,pos,after,none⟩).run P w=.ok (.value (.map (some w.heap.size))) (w.alloc (.map #[] 0)):=by
    simp[execOp,Instr.makeMap]
  exact E6 rfl (L4 hrun (k _ _ _ (ha.put hd _) (hs.alloc _)))

end
end Go.Eng

namespace Go.Eng
open Go Go.RowKit Go.ChangeShapes Go.WideShapes Go.ChangeAt Go.Joins

/-- A contract that leaves the world as it was. -/
theorem CT.ofCalls {P:Program} {f:FuncId} {args:List Value} {h:List Res} {m:View} {v:Value} (he:∀ as w,(callFunc f as).run P w=.ok (.enter f as) w)
    (hc:∀ w,St m h w→Calls P f args.toArray w fun e w'=>e=.returned v∧w'=w):CT P f args h m (A7 h v):=
  ⟨he,fun w st=>Calls.mono (hc w st) (by rintro e w' ⟨rfl,rfl⟩;exact⟨v,m,h,rfl,View.le.refl m,st,rfl,rfl⟩)⟩

theorem CT.argsE {P:Program} {f:FuncId} {args args':List Value} {h:List Res} {m:View} {R:Value→View→List Res→Prop} (e:args=args') (c:CT P f args' h m R):CT P f args h m R:=e ▸ c

theorem V2 {P:Program} {Q:Exit→Act→World→Prop} {n:Cx} {F:Fm} {h h':List Res} {m:View} {c:Code} (e:h=h') (k:WC P c Q n F h' m):WC P c Q n F h m:=e ▸ k
theorem a5h {P:Program} {ops:Array Oper} {Q:Exit→Act→World→Prop} {n:Cx} {F:Fm} {h h':List Res} {m:View} {l:List Oper} (e:h=h') (k:WL P ops Q n l F h' m):WL P ops Q n l F h m:=e ▸ k

section
variable {P:Program} {n:Cx} {F:Fm} {h:List Res} {m:View} {ty:TypeId} {pos:String} {after:Array Edge} {dst:Option Nat} {g:Option (Nat × Bool)}
theorem F5 {α:Type} {en:α→List Value} {l:List α} {q:Nat} {z:α} {x:Operand} {t i o len cap sz:Nat} {fs:Array Field} {f:Field} {a:Option Addr} (ht:P.underlying t=some (.struct fs)) (hf:fs[i]?=some f) (hz:P.cellsOf f.type≠0)
    (henc:∀ x,(en x).length=sz) (h0:0 < sz) (hs:Rd m h a len cap sz (fl en l)) (hx:l[q]?=some z) (ex:Ev n F x (.pointer (elt a o))) :
    PO P ⟨dst,.fieldAddr t x i,ty,pos,after,g⟩ n F h m (.pointer (elt a (o+f.offset))):=
  b6E ht hf hz hs (j:=0) (by
    rw[a4Y henc]
    have:0 < l.length:=by
      cases l with
      | nil=>simp at hx
      | cons y l=>simp
    exact Nat.mul_pos this h0) ex
theorem PO.max {x y:Operand} {i j:Int} {t:TypeId} (ex:Ev n F x (.int .i64 i)) (ey:Ev n F y (.int .i64 j)) :
    PO P ⟨dst,.call ⟨.builtin .max,#[x,y],#[t,t]⟩,ty,pos,after,g⟩ n F h m (.int .i64 (if i < j then j else i)):=.mk fun b w ha _=>by
  simp[execOp,resolve,invoke,builtin,ex b ha,ey b ha,run_max_int2]
theorem a6a {x i:Operand} {t e len sz:Nat} {u:TypeDesc} {k:IntKind} {j:Int} {q:Nat} {cs vs:List Value} (ht:P.underlying t=some (.array len e)) (he:P.underlying e=some u) (hp:M9 u=false)
    (hsz:(P.info? e).map (·.size)=some sz) (ex:Ev n F x (.agg cs.toArray)) (ei:Ev n F i (.int k j)) (hj:j=(q:Int)) (hq:q < len) (hv:(cs.drop (q * sz)).take sz=vs) :
    PO P ⟨dst,.index t x i,ty,pos,after,g⟩ n F h m (.agg vs.toArray):=.mk fun b w ha _=>by
  subst hj hv
  have e1:¬ len≤q:=by omega
  have hs:(sizeOf e).run P w=.ok sz w:=by
    cases hi:P.info? e with
    | none=>rw[hi] at hsz;cases hsz
    | some y=>rw[hi] at hsz;simp at hsz;simp[sizeOf,typeInfo,hi,hsz]
  simp[execOp,ex b ha,ei b ha,Instr.index,asIntOf,run_underlying ht,part,a2o w he hp,hs]
  exact fun hh=>absurd hh e1
end

section
variable {H:Type} {enc:TypeId × Value→H} {P:Program} {W:World} {sp:Nat→Bool} {held:Bool} {P8:Nat} {t:TypeId} {cs:List Value}
theorem a5E {k k':IntKind} {z:Int} {p:List MemPlace} (ht:P.underlying t=some (.int k)) (h:DataW.trod enc P W 0 sp held P8 t cs=some (.lit (.int k' z),p)):cs=[.int k z]:=by
  cases P8 with
  | zero=>simp[DataW.trod] at h
  | succ f=>
    unfold DataW.trod at h
    rw[ht] at h
    split at h <;> simp_all
theorem b9V {l:List UInt8} {p:List MemPlace} (ht:P.underlying t=some .string) (h:DataW.trod enc P W 0 sp held P8 t cs=some (.lit (.string l),p)):cs=[str l]:=by
  cases P8 with
  | zero=>simp[DataW.trod] at h
  | succ f=>
    unfold DataW.trod at h
    rw[ht] at h
    split at h <;> simp_all
    obtain⟨-,rfl,-⟩:=h
    simp
theorem a6x {fs:Array Field} {ds:List (DataW H)} {p:List MemPlace} (ht:P.underlying t=some (.struct fs)) (h:DataW.trod enc P W 0 sp held P8 t cs=some (.agg ds,p)) :
    ∃ f,∀ (i:Nat) (q:Field) (d:DataW H),fs[i]?=some q→ds[i]?=some d→∃ p',DataW.trod enc P W 0 sp held f q.type ((cs.drop q.offset).take (P.cellsOf q.type))=some (d,p'):=by
  cases P8 with
  | zero=>simp[DataW.trod] at h
  | succ f=>
    unfold DataW.trod at h
    rw[ht] at h
    split at h <;> simp_all
    obtain⟨-,xs,h2,rfl,-⟩:=h
    refine⟨f,fun i q d hq hd=>?_⟩
    obtain⟨y,e1,e2⟩:=(a3Q h2).2 i q (by simpa using hq)
    rw[List.getElem?_map,e1] at hd
    simp at hd
    subst hd
    exact⟨y.2,e2⟩
theorem b3N {len e:Nat} {ds:List (DataW H)} {p:List MemPlace} (ht:P.underlying t=some (.array len e)) (h:DataW.trod enc P W 0 sp held P8 t cs=some (.agg ds,p)) :
    ∃ f,∀ (i:Nat) (d:DataW H),i < len→ds[i]?=some d→∃ p',DataW.trod enc P W 0 sp held f e ((cs.drop (i * P.cellsOf e)).take (P.cellsOf e))=some (d,p'):=by
  cases P8 with
  | zero=>simp[DataW.trod] at h
  | succ f=>
    unfold DataW.trod at h
    rw[ht] at h
    split at h <;> simp_all
    obtain⟨-,xs,h2,rfl,-⟩:=h
    refine⟨f,fun i d hi hd=>?_⟩
    obtain⟨y,e1,e2⟩:=(a3Q h2).2 i i (by simp[hi])
    rw[List.getElem?_map,e1] at hd
    simp at hd
    subst hd
    exact⟨y.2,e2⟩
theorem cell_of_cut {l:List Value} {a k:Nat} {v:Value} (h:(l.drop a).take k=[v]):l[a]?=some v:=by
  have:((l.drop a).take k)[0]?=some v:=by rw[h];rfl
  cases k with
  | zero=>simp at h
  | succ k=>simpa using this
end

/-- The wrap of a row whose listed variables read as listed: the world's shape is kept. -/
theorem a0A {H:Type} {enc:TypeId × Value→H} {a:Assume} {C:Checked} {os:Os} {f:FuncId} {fn:Func} {s:ChangeSpec} {conds:List PathCond} {apart fresh handsOn again:Bool} {laid:List (String × DataW Unit)}
    (own:ownKnob C.prog.godebug=none) (started:os.Started) (noInit:C.prog.inits.idxOf? f=none) (hfn:C.prog.funcs[f]?=some fn)
    (witness:∃ (w:World) (tape:Tape) (i:Input),w.os=os∧(w.forCall tape i).Shaped C.prog∧i.vars=[]∧Input.okWide C.prog (w.forCall tape i) .any w.heap.size f i ∧
      ((s.pre enc C.prog fn conds apart (w.forCall tape i).memory i.args∧laidMet C.prog laid (w.forCall tape i).memory)∧sizedMet enc C.prog fn (OpenSpec.ofChange s) apart (w.forCall tape i).memory i.args)∧a.holds C.prog (lone (Frame.enter C.prog f i.args .normal) [] (w.forCall tape i)))
    (contract:∀ (W:World) (base:Nat) (args:Array Value) (ds gs:List (DataW H)) (before:List MemPlace),
      (∀ (j:Nat) t v,fn.params[j]?=some t→args[j]?=some v→Value.okWide C.prog W .any base t v) →
      DataW.Whole enc C.prog fn.params.toList s.vars apart W args.toList ds gs before →
      (DataW.weightsEach C.prog (fn.params.toList++s.plain.varTypes C.prog) (ds++gs)).all (·≤reachBytes)=true→laidMet C.prog laid W→W.ShapedOpen C.prog →
      Calls C.prog f args W fun e W'=>∃ v,e=.returned v∧s.post enc C.prog fn apart fresh handsOn again W args v W') :
    ReturnsInHanded a C os f .any (fun w args=>(s.pre enc C.prog fn conds apart w args∧laidMet C.prog laid w)∧sizedMet enc C.prog fn (OpenSpec.ofChange s) apart w args) (s.post enc C.prog fn apart fresh handsOn again):=by
  refine returnsInHanded_of_calls own started noInit witness fun w tape i _ hsh _ hok hpre _=>?_
  obtain⟨_,_,_,fn',hfn',_,_,_,_,hval⟩:=hok
  cases Option.some.inj (hfn'.symm.trans hfn)
  obtain⟨⟨⟨ds,gs,before,hw,_⟩,hl⟩,hz⟩:=hpre
  refine Calls.mono (contract (w.forCall tape i) w.heap.size i.args ds gs before hval (DataW.Whole.of_heap (w':=w.forCall tape i) (by rfl) hw) (hz.weights hw) (laidMet.of_heap (w':=w.forCall tape i) (by rfl) hl) hsh) ?_
  rintro e W' ⟨v,rfl,hp⟩
  exact ChangeSpec.post_blind hp
end Go.Eng

namespace Go.Eng
open Go
section
variable {P:Program} {ops:Array Oper} {Q:Exit→Act→World→Prop} {n:Cx} {F:Fm} {h h':List Res} {m:View} {rest:List Oper}
variable {ty:TypeId} {pos:String} {after:Array Edge} {d:Nat} {v:Value}
theorem CT.perm {f:FuncId} {args:List Value} {h1 h2 h1' h2':List Res} (hp:h1.Perm h2) (c:CT P f args h2 m (A7 h2' v)) (hp':h2'.Perm h1'):CT P f args h1 m (A7 h1' v):=
  ⟨c.enter,fun w st=>Calls.mono (c.calls w (st.perm hp)) (by rintro e w' ⟨v',m',h',rfl,hle,hst,rfl,rfl⟩;exact⟨v',m',h1',rfl,hle,hst.perm hp',rfl,rfl⟩)⟩
theorem CT.outE {f:FuncId} {args:List Value} {h1 h2:List Res} (e:h1=h2) (c:CT P f args h m (A7 h1 v)):CT P f args h m (A7 h2 v):=e ▸ c
theorem CT.frame {f:FuncId} {args:List Value} {fr hp hp' hs:List Res} (c:CT P f args (hp++(fr++hs)) m (A7 (hp'++(fr++hs)) v)):CT P f args (fr++(hp++hs)) m (A7 (fr++(hp'++hs)) v):=
  CT.perm (List.perm_append_comm_assoc fr hp hs) c (List.perm_append_comm_assoc hp' fr hs)
theorem a9J {fr h:List Res} (x5 x3 x2 x1:Res):(fr++([x3,x2]++(x5::x1::h))).Perm ([x5,x3,x2,x1]++(fr++h)):=by
  refine(List.perm_append_comm_assoc fr [x3,x2] (x5::x1::h)).trans ?_
  refine((List.perm_append_comm_assoc fr [x5,x1] h).append_left [x3,x2]).trans ?_
  exact List.perm_middle (l₁:=[x3,x2])
theorem a4b {f:Operand} {args:List Operand} {tys:Array TypeId} {vs first cap:List Value} {q:FuncId} {gd:Nat × Bool} {c:Bool} (hg:GU ops n F gd c)
    (p:c=true→Ev n F f (.func (.func q) first.toArray cap.toArray)∧Evs n F args vs∧CT P q (first++vs++cap) h m (A7 h' v)) (h0:c=false→h'=h) (hd:d < n.num)
    (k:WL P ops Q n rest ((d,gv c v)::F) h' m):WL P ops Q n (⟨some d,.call ⟨.value f,args.toArray,tys⟩,ty,pos,after,some gd⟩::rest) F h m:=by
  cases c with
  | false=>
    cases h0 rfl
    exact c3D hg rfl hd k
  | true=>
    obtain⟨ef,ea,ct⟩:=p rfl
    refine c05 hg rfl (G0 ef ea ct hd ?_)
    rintro _ _ ⟨rfl,rfl⟩
    exact k
theorem b6z {eff:List Nat} {t:Tl} {hs hp hp':List Res} {i:Nat} {s:Tr} {f:Operand} {args:List Operand} {tys:Array TypeId} {vs first cap:List Value} {q:FuncId} {gd:Nat × Bool} {c:Bool}
    (ho:ops[i]?=some ⟨some d,.call ⟨.value f,args.toArray,tys⟩,ty,pos,after,some gd⟩) (he:eff.contains i=true) (hg:GU ops n F gd c)
    (p:c=true→Ev n F f (.func (.func q) first.toArray cap.toArray)∧Evs n F args vs∧∀ fr,CT P q (first++vs++cap) (fr++(hp++hs)) m (A7 (fr++(hp'++hs)) v)) (h0:c=false→hp'=hp) (hd:d < n.num)
    (k:SR P ops Q n eff t hs s ((d,gv c v)::F) hp' m):SR P ops Q n eff t hs (.op i s) F hp m:=⟨_,ho,fun x hx=>by cases hx;exact hd,by
  rw[he]
  refine⟨fun fr a w ha st=>?_⟩
  have hy:=hg.wanted (dst:=some d) (op:=.call ⟨.value f,args.toArray,tys⟩) (ty:=ty) (pos:=pos) (after:=after) ha
  cases c with
  | true=>
    refine⟨fun _=>?_,fun h=>by rw[hy] at h;cases h⟩
    obtain⟨ef,ea,ct⟩:=p rfl
    rw[R9 ha ef ea (ct fr).enter]
    refine Calls.mono ((ct fr).calls w st) ?_
    rintro e w' ⟨v',m',h',rfl,hle,hst,rfl,rfl⟩
    exact .inl ⟨_,rfl,m,hp',View.le.refl m,hst.back hle,nofun,k.e⟩
  | false=>
    cases h0 rfl
    exact⟨fun h=>(by rw[hy] at h;cases h),fun _=>⟨nofun,k.e⟩⟩⟩
section
variable {eff:List Nat} {t:Tl} {hs hp:List Res} {i:Nat} {s:Tr} {op:Op}
/-- Reading what the region itself turns: ordered as an effect. -/
theorem b4x (ho:ops[i]?=some ⟨some d,op,ty,pos,after,none⟩) (he:eff.contains i=true) (p:∀ fr,PO P ⟨some d,op,ty,pos,after,none⟩ n F (fr++(hp++hs)) m v) (hd:d < n.num)
    (k:SR P ops Q n eff t hs s ((d,v)::F) hp m) (hmk:a2H ⟨some d,op,ty,pos,after,none⟩=false:=by rfl):SR P ops Q n eff t hs (.op i s) F hp m:=⟨_,ho,fun x hx=>by cases hx;exact hd,by
  rw[he]
  cases hr:a4S ⟨some d,op,ty,pos,after,none⟩ with
  | true=>exact⟨v,⟨fun a w ha st=>⟨fun _=>(p []).e a w ha st,fun h=>by simp[Region.wanted] at h⟩⟩,k.e⟩
  | false=>
    simp only[hmk,Bool.false_and]
    refine⟨fun fr a w ha st=>⟨fun _=>?_,fun h=>by simp[Region.wanted] at h⟩⟩
    rw[(p fr).e a w ha st]
    exact⟨m,hp,View.le.refl m,st,fun _=>List.Sublist.refl _,k.e⟩⟩
theorem a7H {dst:Option Nat} {gd:Nat × Bool}:a4S ⟨dst,op,ty,pos,after,some gd⟩=false:=by
  unfold a4S
  split <;> simp_all
theorem a7A {dst:Option Nat} {gd:Nat × Bool}:a2H ⟨dst,op,ty,pos,after,some gd⟩=false:=by
  unfold a2H
  split <;> simp_all
theorem b5f {gd:Nat × Bool} {c:Bool} (ho:ops[i]?=some ⟨some d,op,ty,pos,after,some gd⟩) (he:eff.contains i=true) (hg:GU ops n F gd c)
    (p:c=true→∀ fr,PO P ⟨some d,op,ty,pos,after,some gd⟩ n F (fr++(hp++hs)) m v) (hd:d < n.num) (k:SR P ops Q n eff t hs s ((d,gv c v)::F) hp m) :
    SR P ops Q n eff t hs (.op i s) F hp m:=⟨_,ho,fun x hx=>by cases hx;exact hd,by
  rw[he]
  simp only[a7H,a7A,Bool.false_and]
  refine⟨fun fr a w ha st=>?_⟩
  have hy:=hg.wanted (dst:=some d) (op:=op) (ty:=ty) (pos:=pos) (after:=after) ha
  cases c with
  | true=>
    refine⟨fun _=>?_,fun h=>by rw[hy] at h;cases h⟩
    rw[(p rfl fr).e a w ha st]
    exact⟨m,hp,View.le.refl m,st,fun _=>List.Sublist.refl _,k.e⟩
  | false=>exact⟨fun h=>(by rw[hy] at h;cases h),fun _=>⟨fun _=>List.Sublist.refl _,k.e⟩⟩⟩
end
end
end Go.Eng

namespace Go.Eng
open Go
section
variable {P:Program} {ops:Array Oper} {Q:Exit→Act→World→Prop} {n:Cx} {F:Fm} {h h':List Res} {m:View} {rest:List Oper}
variable {ty:TypeId} {pos:String} {after:Array Edge} {d:Nat} {v:Value}
end
end Go.Eng

namespace Go.Eng
open Go
section
variable {P:Program} {ops:Array Oper} {Q:Exit→Act→World→Prop} {n:Cx} {F:Fm} {h h':List Res} {m:View} {rest:List Oper}
variable {ty:TypeId} {pos:String} {after:Array Edge} {d:Nat} {v:Value}
/-- A slice over the first part of a block. -/
theorem Rd.ofPtP {b k cap sz:Nat} {cs zs:List Value} {e:TypeId} {fz:Nat × Nat} (hl:cs.length=k * sz) (hle:k≤cap) (hmx:cap≤9223372036854775807) (hm:Res.pt b (.cells (cs++zs).toArray e fz) ∈ h):Rd m h (some ⟨b,0,none⟩) k cap sz cs:=
  ⟨hl,hle,hmx,fun w st j u hj=>⟨b,0,rfl,by
    rw[st.pt_cell hm,Nat.zero_add]
    have:=(List.getElem?_eq_some_iff.1 hj).1
    simp only[List.getElem?_toArray,List.getElem?_append_left this]
    exact hj⟩⟩
theorem a6C {x:Operand} {t0 t e:TypeId} {s:List UInt8} (ht0:P.underlying t0=some .string) (ht:P.underlying t=some (.slice e)) (he:P.underlying e=some (.int .u8)) (ex:Ev n F x (str s)) (hd:d < n.num) (hs:s.length≤9223372036854775807)
    (kk:∀ b zs fz cap,s.length≤cap→cap≤9223372036854775807→WL P ops Q n rest ((d,.slice (some ⟨b,0,none⟩) s.length cap)::F) (.pt b (.cells (bv s++zs).toArray e fz)::h) m) :
    WL P ops Q n (⟨some d,.convert t0 t x,ty,pos,after,none⟩::rest) F h m:=.mk fun f w ha st=>by
  have hr:=Lib.run_convert_string_bytes (P:=P) w t0 t e ⟨s.toArray⟩ ht0 ht he
  have hsz:(⟨s.toArray⟩:ByteArray).size=s.length:=by simp[ByteArray.size]
  rw[hsz] at hr
  have hrun:(execOp f.eval ⟨some d,.convert t0 t x,ty,pos,after,none⟩).run P w=.ok (.value (.slice (some ⟨w.heap.size,0,none⟩) s.length (grownCap w s.length 0 e))) (Lib.bytesWorld w e ⟨s.toArray⟩):=by
    simp[execOp,ex f ha,hr]
  have hC:Lib.bytesCells w e ⟨s.toArray⟩=(bv s++List.replicate (grownCap w s.length 0 e - s.length) (Value.int .u8 0)).toArray:=by
    unfold Lib.bytesCells
    rw[hsz]
    simp[bv]
  have hnew:(w.drew.alloc (.cells (Lib.bytesCells w e ⟨s.toArray⟩) e)).heap[w.heap.size]?=some (.cells (Lib.bytesCells w e ⟨s.toArray⟩) e (0,0)):=a6b w.drew _
  obtain⟨h1,h2,h3,h4,h5⟩:=b08 _ w.heap.size (Lib.bytesCells w e ⟨s.toArray⟩) e (Lib.bytesCells w e ⟨s.toArray⟩).size hnew
  refine E6 rfl (L4 hrun (kk w.heap.size (List.replicate (grownCap w s.length 0 e - s.length) (Value.int .u8 0)) ((Lib.bytesCells w e ⟨s.toArray⟩).size,(Lib.bytesCells w e ⟨s.toArray⟩).size+1) (grownCap w s.length 0 e) (grownCap_ge w s.length 0 e) (grownCap_le_maxLen w s.length 0 e (by unfold maxLen;exact hs)) _ _ (ha.put hd _) ?_))
  have:=(st.drew.alloc (.cells (Lib.bytesCells w e ⟨s.toArray⟩) e)).upd (r':=.pt w.heap.size (.cells (Lib.bytesCells w e ⟨s.toArray⟩) e ((Lib.bytesCells w e ⟨s.toArray⟩).size,(Lib.bytesCells w e ⟨s.toArray⟩).size+1))) Upd.here h3 h4 h5 (fun q _ hq=>h2 q (fun e=>hq (by rw[e];rfl))) h1 (fun b hb=>.inl hb)
  rw[← hC]
  exact this
end
end Go.Eng

namespace Go.Eng
open Go Go.Sort
section
variable {P:Program} {ops:Array Oper} {Q:Exit→Act→World→Prop} {n:Cx} {F:Fm} {h h':List Res} {m:View} {rest:List Oper} {dst:Option Nat} {g:Option (Nat × Bool)}
variable {ty:TypeId} {pos:String} {after:Array Edge} {d:Nat} {v:Value}
theorem SR.val {eff:List Nat} {t:Tl} {hs hp:List Res} {s:Tr} {v':Value} (e:v=v') (k:SR P ops Q n eff t hs s ((d,v')::F) hp m):SR P ops Q n eff t hs s ((d,v)::F) hp m:=e ▸ k
theorem c0f:∀ c,c < 128→(Utf8.encode ((c:Nat):Int)).data.toList=[UInt8.ofNat c]:=by decide +kernel
theorem c0p {x:Operand} {k:IntKind} {i:Int} {s t:TypeId} {u:TypeDesc} {c:Nat} (hs:P.underlying s=some u) (ht:P.underlying t=some .string) (ex:Ev n F x (.int k i)) (hi:i=(c:Int)) (hc:c < 128) :
    PO P ⟨dst,.convert s t x,ty,pos,after,g⟩ n F h m (str [UInt8.ofNat c]):=.mk fun a w ha _=>by
  subst hi
  have e:Utf8.encode ((c:Nat):Int)=⟨[UInt8.ofNat c].toArray⟩:=by
    have:=c0f c hc
    apply ByteArray.ext
    apply Array.ext'
    simpa using this
  simp[execOp,ex a ha,convert,run_underlying hs,run_underlying ht,Conv.intToString,e]
theorem St.wider {w w':World} (s:St m h w) (h1:w'.os=w.os) (h2:w'.output=w.output) (h3:w'.tape=w.tape) (hh:∀ b,b < w.heap.size→w'.heap[b]?=w.heap[b]?):St m h w' where
  os:=h1.trans s.os
  out:=h2.trans s.out
  tape:=h3.trans s.tape
  blk b o hb:=by
    have e:=s.blk b o hb
    rw[hh b (Y6 e)]
    exact e
  ok r hr:=Res.ok_of_block (s.ok r hr) fun b hb=>hh b (Res.lt (s.ok r hr) b hb)
  nd:=s.nd
  fr:=s.fr
theorem CT.ofGrow {f:FuncId} {args:List Value} (he:∀ as w,(callFunc f as).run P w=.ok (.enter f as) w)
    (hc:∀ w,St m h w→Calls P f args.toArray w fun e w'=>e=.returned v∧∃ k os,w'=grow (w.drewN k) os):CT P f args h m (A7 h v):=
  ⟨he,fun w st=>Calls.mono (hc w st) (by rintro e w' ⟨rfl,k,os,rfl⟩;exact⟨v,m,h,rfl,View.le.refl m,st.wider rfl rfl rfl (fun b hb=>by simp[grow,World.drewN,Array.getElem?_append,hb]),rfl,rfl⟩)⟩
end
end Go.Eng

namespace Go.Eng
open Go
section
variable {H:Type} {enc:TypeId × Value→H} {P:Program} {W:World} {held:Bool} {P8:Nat} {t:TypeId} {cs:List Value} {x:DataW H × List MemPlace}
theorem c2r (ht:P.underlying t=some .string) (h:RdT enc P W held P8 t cs x):∃ l:List UInt8,cs=[str l]∧l.length ∈ x.1.weights P t:=by
  obtain⟨f,rfl⟩:=b4d h
  unfold RdT DataW.trod at h
  rw[ht] at h
  split at h <;> simp_all
  rename_i s
  obtain⟨_,rfl⟩:=h
  exact⟨s.data.toList,by simp,by simp[DataW.weights]⟩
theorem b4n {fs:Array Field} (ht:P.underlying t=some (.struct fs)) (h:RdT enc P W held P8 t cs x) :
    cs.length=P.cellsOf t∧∃ f,P8=f+1∧∀ q ∈ fs.toList,∃ (d:DataW H) (p:List MemPlace),RdT enc P W held f q.type ((cs.drop q.offset).take (P.cellsOf q.type)) (d,p)∧∀ n ∈ d.weights P q.type,n ∈ x.1.weights P t:=by
  have ht':=ht
  obtain⟨f,rfl⟩:=b4d h
  unfold RdT DataW.trod at h
  rw[ht] at h
  split at h <;> simp_all
  obtain⟨h1,xs,h2,hx⟩:=h
  intro q hq
  obtain⟨j,hj⟩:=Array.getElem?_of_mem hq
  obtain⟨e,k⟩:=a3Q h2
  obtain⟨y,hy,hr⟩:=k j q (by simpa using hj)
  refine⟨y.1,⟨y.2,hr⟩,fun n hn=>?_⟩
  subst hx
  unfold DataW.weights
  rw[ht']
  exact DataW.weights_mem_each (j:=j) (by simp[hj]) (by simp[hy]) n hn
theorem a3N {e:TypeId} {d:DataW H}:∀ {l:List (DataW H)},d ∈ l→∀ n ∈ d.weights P e,n ∈ DataW.weightsAll P e l
  | y::l,hd,n,hn=>by
    unfold DataW.weightsAll
    rcases List.mem_cons.1 hd with rfl | hd
    · exact List.mem_append_left _ hn
    · exact List.mem_append_right _ (a3N hd n hn)
theorem b6h {e:TypeId} (ht:P.underlying t=some (.slice e)) (h:RdT enc P W held P8 t cs x) :
    cs=[.slice none 0 0]∨∃ a n c f,cs=[.slice (some a) n c]∧P8=f+1∧n≤c∧c≤maxLen∧∀ i,i < n→∃ ys y,W.cells? 0 (a.add (i * P.cellsOf e)) (P.cellsOf e)=some ys∧RdT enc P W held f e ys y∧∀ k ∈ y.1.weights P e,k ∈ x.1.weights P t:=by
  rcases DataW.trod_slice ht h with ⟨rfl,_⟩ | ⟨a,n,c,el,rs,f,rfl,rfl,rfl,_,h1,h2,h3,h4,_,_⟩
  · exact .inl rfl
  · refine .inr ⟨a,n,c,f,rfl,rfl,h1,h2,fun i hi=>?_⟩
    have he:=h4 i hi
    rw[List.getElem?_eq_getElem (by omega)] at he
    cases hc:W.cells? 0 (a.add (i * P.cellsOf e)) (P.cellsOf e) with
    | none=>rw[hc] at he;cases he
    | some ys=>
      rw[hc] at he
      refine⟨ys,el[i]'(by omega),rfl,he,fun k hk=>?_⟩
      unfold DataW.weights
      rw[ht]
      exact List.mem_cons_of_mem _ (List.mem_append_left _ (a3N (List.mem_map.2 ⟨_,List.getElem_mem _,rfl⟩) k hk))
theorem b4e {α:Type} {Pr:α→Prop} {enc':α→List Value} {e sz:Nat} (ht:P.underlying t=some (.slice e)) (hsz:P.cellsOf e=sz) (hpos:0 < sz) (henc:∀ x,(enc' x).length=sz)
    (hdec:∀ f ys y,RdT enc P W held f e ys y→(∀ k ∈ y.1.weights P e,k ∈ x.1.weights P t)→∃ z,ys=enc' z∧Pr z) (h:RdT enc P W held P8 t cs x) :
    ∃ a n c l,cs=[.slice a n c]∧l.length=n∧Sl (W0 W) a n c sz (fl enc' l)∧∀ z ∈ l,Pr z:=by
  rcases b6h ht h with rfl | ⟨a,n,c,f,rfl,rfl,h1,h2,h3⟩
  · exact⟨none,0,0,[],rfl,rfl,Sl.nil _ _,fun _ h=>by cases h⟩
  · rw[hsz] at h3
    have h4:∀ i,i < n→∃ z,W.cells? 0 (a.add (i * sz)) sz=some (enc' z)∧Pr z:=fun i hi=>by
      obtain⟨ys,y,e1,e2,e3⟩:=h3 i hi
      obtain⟨z,rfl,hz⟩:=hdec f ys y e2 e3
      exact⟨z,e1,hz⟩
    obtain⟨l,hl,hp⟩:=a3z n h4
    refine⟨some a,n,c,l,rfl,hl,⟨by rw[a4Y henc,hl],h1,by unfold maxLen at h2;omega,fun j v hj=>?_⟩,fun z hz=>?_⟩
    · have hjl:j < n * sz:=by have:=(List.getElem?_eq_some_iff.1 hj).1;rwa [a4Y henc,hl] at this
      have hq:j / sz < n:=Nat.div_lt_of_lt_mul (by rwa [Nat.mul_comm] at hjl)
      obtain⟨z,hz⟩:=A5 (l:=l) (k:=j / sz) (by omega)
      have hm:j % sz < sz:=Nat.mod_lt _ hpos
      have hj2:(enc' z)[j % sz]?=some v:=by
        have:=a5k (sz:=sz) enc' henc l (j / sz) (j % sz) hm
        rw[Nat.mul_comm,Nat.div_add_mod,hz] at this
        unfold fl at hj
        rw[hj] at this
        exact this.symm
      obtain⟨hc,_⟩:=hp _ z hz
      have hcell:=(a43 hc).2 _ v hj2
      have hsp:a.spot=none:=by
        obtain⟨z0,hz0⟩:=A5 (l:=l) (k:=0) (by rw[hl];exact Nat.lt_of_le_of_lt (Nat.zero_le _) hq)
        obtain⟨v0,hv0⟩:=A5 (l:=enc' z0) (k:=0) (by rw[henc];omega)
        have h0:=(a43 (hp _ z0 hz0).1).2 _ v0 hv0
        have e0:(a.add (0 * sz)).add 0=a:=by simp[Addr.add]
        rw[e0] at h0
        unfold World.cell? at h0
        split at h0
        · cases hs:a.spot with
          | none=>rfl
          | some q=>rw[hs] at h0;cases h0
        · cases h0
      obtain⟨b,off,sp⟩:=a
      cases hsp
      refine⟨b,off,rfl,?_⟩
      rw[Addr.add_lit,Addr.add_lit,Nat.add_assoc,show j / sz * sz+j % sz=j by rw[Nat.mul_comm,Nat.div_add_mod]] at hcell
      exact T9 hcell
    · obtain⟨i,hi⟩:=List.getElem?_of_mem hz
      exact(hp i z hi).2
end
end Go.Eng

namespace Go.Eng
open Go
section
variable {P:Program} {ops:Array Oper} {Q:Exit→Act→World→Prop} {n:Cx} {F:Fm} {h h':List Res} {m:View} {rest:List Oper}
variable {ty:TypeId} {pos:String} {after:Array Edge} {d:Nat} {v:Value} {eff:List Nat} {hs hp:List Res} {i:Nat} {s:Tr}
end
end Go.Eng
end
section
namespace Go.Eng
open Go Go.RowKit

/-- A call of yield: a round is asked for, and ends in R. -/
def b4r (P:Program) (l:Nat) (v:Value) (w:World) (R:Bool→World→Prop):Prop:=
  ∃ fn tmps assign body,(Instr.yield l #[v]).run P w=.ok (.round l fn tmps assign body) w ∧
    RoundIn (fen none) 0 P l fn tmps assign body w fun e w'=>∃ b,e=.returned (.bool b)∧R b w'
theorem b4r.mono {P:Program} {l:Nat} {v:Value} {w:World} {R R':Bool→World→Prop} (h:b4r P l v w R) (hr:∀ b w',R b w'→R' b w'):b4r P l v w R':=by
  obtain⟨fn,tmps,assign,body,h1,h2⟩:=h
  exact⟨fn,tmps,assign,body,h1,h2.mono fun e w' ⟨b,e1,e2⟩=>⟨b,e1,hr b w' e2⟩⟩
section
variable {P:Program} {ops:Array Oper} {Q:Exit→Act→World→Prop} {n:Cx} {F:Fm} {h h':List Res} {m:View} {rest:List Oper}
variable {op:Op} {ty:TypeId} {pos:String} {after:Array Edge} {d:Nat} {v:Value}

theorem St.at {b:Nat} {o:Obj} {w:World} (s:St m h w) (hm:Res.pt b o ∈ h):w.heap[b]?=some o:=s.ok _ hm
theorem U7 {eff:List Nat} {t':Tl} {hs hp:List Res} {i:Nat} {s:Tr} {x y:Operand} {t e:TypeId} {sz by_ l cap k c l':Nat} {a b:Option Addr} {xs ys zs:List Value} {hq:Value→List Res}
    (ho:ops[i]?=some ⟨some d,.call ⟨.builtin .append,#[x,y],#[t,t]⟩,ty,pos,after,none⟩) (he:eff.contains i=true) (E:EL P t e sz by_) (ex:Ev n F x (.slice a l cap)) (ey:Ev n F y (.slice b k c))
    (rd:Rd m (hp++hs) b k c sz ys) (h1:∀ u ∈ ys,u.oneCell'=true) (hl:l+k=l') (hz:xs++ys=zs) (h63:l'≤9223372036854775807) (hbytes:l' * by_≤140737488355328)
    (u:∀ v',Upd hp (.row (.slice a l cap) e sz l xs) (.row v' e sz l' zs) (hq v')) (hd:d < n.num) (kk:∀ a' cap',SR P ops Q n eff t' hs s ((d,.slice a' l' cap')::F) (hq (.slice a' l' cap')) m) :
    SR P ops Q n eff t' hs (.op i s) F hp m:=by
  subst hl hz
  exact SR.append ho he E ex ey rd h1 h63 hbytes u hd kk
/-- A list of operations among which yield is called. -/
structure WY (P:Program) (ops:Array Oper) (Q:Exit→Act→World→Prop) (n:Cx) (l:List Oper) (F:Fm) (h:List Res) (m:View):Prop where
  e:∀ a w,Fr n F a→St m h w→wpListIn (fen n.ro) 0 P ops (Y2 Q) l a w
theorem a7f {id:Nat} {l:List Oper} {G:List (Option Nat)} (hG:a9j l=some G) (k:∀ ops:Array Oper,(∀ j t,G[j]?=some (some t)→a1z ops j=some t)→WY P ops Q n l F h m):WC P (.region id l.toArray false) Q n F h m:=.mk fun a w ha hs=>
  wpIn_region_lit ((k _ fun j t hj=>by
    have hG:=a6Z hG
    subst hG
    unfold a1z
    simp only[List.getElem?_map] at hj
    simp only[List.getElem?_toArray]
    cases hl:l[j]? with
    | none=>simp[hl] at hj
    | some o=>simpa [hl] using hj).e a w ha hs)

theorem a6v {o:Oper} {a:Act} {w w':World} {K:Act→World→Prop} {v:Value} (hro:n.ro=none) (hr:(execOp a.eval o).run P w=.ok (.value v) w') (h:K (a.put o.dst v) w'):o.wpIn (fen n.ro) 0 P a w K Q:=by
  refine⟨fun _ _=>trivial,?_⟩
  show o.uponIn (fen n.ro) 0 P a K Q ((o.semAt n.ro a.eval).run P w)
  rw[hro,Oper.semAt_none,hr]
  exact h
theorem WY.po (hro:n.ro=none) (hp:PO P ⟨some d,op,ty,pos,after,none⟩ n F h m v) (hn:d < n.num) (k:WY P ops Q n rest ((d,v)::F) h m) :
    WY P ops Q n (⟨some d,op,ty,pos,after,none⟩::rest) F h m:=.mk fun a w ha hs=>by
  unfold wpListIn
  rw[if_pos (show Region.wanted _ _=true from rfl)]
  exact a6v hro (hp a w ha hs) (k.e _ _ (ha.put hn v) hs)
theorem WY.poG {gd:Nat × Bool} {c:Bool} (hro:n.ro=none) (hg:GU ops n F gd c) (hp:c=true→PO P ⟨some d,op,ty,pos,after,some gd⟩ n F h m v) (hn:d < n.num) (k:WY P ops Q n rest ((d,gv c v)::F) h m) :
    WY P ops Q n (⟨some d,op,ty,pos,after,some gd⟩::rest) F h m:=.mk fun a w ha hs=>by
  have hy:=hg.wanted (dst:=some d) (op:=op) (ty:=ty) (pos:=pos) (after:=after) ha
  unfold wpListIn
  cases c with
  | true=>
    rw[if_pos hy]
    exact a6v hro (hp rfl a w ha hs) (k.e _ _ (ha.put hn v) hs)
  | false=>
    rw[if_neg (by rw[hy];decide)]
    exact⟨fun _ _=>trivial,k.e _ _ (ha.put hn undef) hs⟩
/-- A function whose body holds a range over a function. -/
def noPan (Q:Exit→Act→World→Prop):Exit→Act→World→Prop
  | .panic _,_,_=>False
  | e,a,w=>Q e a w
end
end Go.Eng

namespace Go.Eng
open Go Go.RowKit
section
variable {P:Program} {ops:Array Oper} {Q:Exit→Act→World→Prop} {n:Cx} {F:Fm} {h h':List Res} {m:View} {rest:List Oper}
variable {op:Op} {ty:TypeId} {pos:String} {after:Array Edge} {d:Nat} {v:Value} {dst:Option Nat} {g:Option (Nat × Bool)}
end
end Go.Eng

namespace Go.Eng
open Go Go.RowKit
section
variable {P:Program} {ops:Array Oper} {Q:Exit→Act→World→Prop} {n:Cx} {F:Fm} {m:View}
variable {ty:TypeId} {pos:String} {after:Array Edge} {d:Nat} {eff:List Nat} {hs hp:List Res} {i:Nat} {s:Tr} {t':Tl}
theorem b8u {t e:Nat} {sz by_:Nat} (ho:ops[i]?=some ⟨some d,.buildSlice t 0 #[],ty,pos,after,none⟩) (he:eff.contains i=true) (E:EL P t e sz by_) (hd:d < n.num)
    (kk:∀ b,SR P ops Q n eff t' hs s ((d,.slice (some ⟨b,0,none⟩) 0 0)::F) (.row (.slice (some ⟨b,0,none⟩) 0 0) e sz 0 []::hp) m) :
    SR P ops Q n eff t' hs (.op i s) F hp m:=⟨_,ho,fun y hy=>by cases hy;exact hd,by
  rw[he]
  refine⟨fun fr f w hf' st=>⟨fun _=>?_,fun h=>by simp[Region.wanted] at h⟩⟩
  obtain⟨i,z',ht,hi,hz',hsize,hby,hzsz,hsz⟩:=E.ex
  have hrun:(execOp f.eval ⟨some d,.buildSlice t 0 #[],ty,pos,after,none⟩).run P w=.ok (.value (.slice (some ⟨w.heap.size,0,none⟩) 0 0)) (w.alloc (.cells #[] e)):=by
    simp[execOp,Instr.buildSlice,run_underlying ht,sizeOf,typeInfo,hi,Instr.fill,newRow,Array.range_zero']
  rw[hrun]
  refine⟨m,.row (.slice (some ⟨w.heap.size,0,none⟩) 0 0) e sz 0 []::hp,View.le.refl m,?_,fun _=>List.sublist_cons_self _ _,(kk _).e⟩
  have h1:=(st.alloc (.cells #[] e)).conv (r':=.row (.slice (some ⟨w.heap.size,0,none⟩) 0 0) e sz 0 []) Upd.here rfl fun hh=>by
    have:=a02 (sz:=sz) (n:=0) (cap:=0) hh (Nat.le_refl _) (by unfold maxLen;omega) (by simp)
    simp only[Nat.zero_mul,List.take_zero] at this
    exact this
  exact h1.perm List.perm_middle.symm⟩
end
end Go.Eng

namespace Go.Eng
open Go Go.RowKit
/-- What a call ends in that may panic. -/
def RX (m:View) (R:Value→View→List Res→Prop) (X:Value→List Res→Prop) (e:Ending) (w:World):Prop:=
  RQ m R e w∨∃ v h',e=.panicked [{ v:=v,recovered:=false }]∧St m h' w∧X v h'
structure CX (P:Program) (f:FuncId) (args:List Value) (h:List Res) (m:View) (R:Value→View→List Res→Prop) (X:Value→List Res→Prop):Prop where
  enter:∀ as w,(callFunc f as).run P w=.ok (.enter f as) w
  calls:∀ w,St m h w→Calls P f args.toArray w (RX m R X)
section
variable {P:Program} {ops:Array Oper} {Q:Exit→Act→World→Prop} {n:Cx} {F:Fm} {h h':List Res} {m:View} {rest:List Oper}
variable {op:Op} {ty:TypeId} {pos:String} {after:Array Edge} {d:Nat} {v:Value} {dst:Option Nat} {g:Option (Nat × Bool)}
theorem CX.ofCT {f:FuncId} {args:List Value} {R:Value→View→List Res→Prop} {X:Value→List Res→Prop} (c:CT P f args h m R):CX P f args h m R X:=⟨c.enter,fun w hs=>Calls.mono (c.calls w hs) fun _ _ q=>.inl q⟩
theorem CX.mono {f:FuncId} {args:List Value} {R R':Value→View→List Res→Prop} {X X':Value→List Res→Prop} (c:CX P f args h m R X) (hr:∀ v m' h',R v m' h'→R' v m' h') (hx:∀ v h',X v h'→X' v h'):CX P f args h m R' X':=
  ⟨c.enter,fun w hs=>Calls.mono (c.calls w hs) fun _ _ q=>q.imp (fun ⟨v,m',h',e,a,b,r⟩=>⟨v,m',h',e,a,b,hr _ _ _ r⟩) fun ⟨v,h',e,s,x⟩=>⟨v,h',e,s,hx _ _ x⟩⟩
theorem CX.argsE {f:FuncId} {args args':List Value} {R:Value→View→List Res→Prop} {X:Value→List Res→Prop} (e:args=args') (c:CX P f args' h m R X):CX P f args h m R X:=e ▸ c
theorem CX.body {f:FuncId} {args:List Value} {R:Value→View→List Res→Prop} {X:Value→List Res→Prop} {fn:Func} {c:Code} {F0:Fm} {N:Nat} (he:∀ as w,(callFunc f as).run P w=.ok (.enter f as) w)
    (hf:P.funcs[f]?=some fn) (hb:fn.body=some c) (hN:fn.ntmps=N) (hl:args.length≤N) (hF:a4B 0 args=some F0) (k:WC P c (bodyPost P fn (RX m R X)) ⟨N,none,[]⟩ F0 h m):CX P f args h m R X:=by
  have hF:=a3g hF
  subst hF hN
  exact⟨he,fun w hs=>calls_of_wp hf hb (wpIn_wide.1 (wpIn_mono (k.e _ w (Fr.enter args fn.ntmps hl) hs) fun _ _ _ q=>a3A q))⟩
theorem toX {fn:Func} {ex:Exit} {m0:View} {R:Value→View→List Res→Prop} {X:Value→List Res→Prop} (hex:ex=.ret∨ex=.normal) (k:∀ a w,Fr n F a→St m h w→bodyPost P fn (RQ m0 R) ex a w) :
    ∀ a w,Fr n F a→St m h w→bodyPost P fn (RX m0 R X) ex a w:=fun a w ha hs=>by
  rcases hex with rfl | rfl
  · obtain⟨h1,v,h2,h3⟩:=k a w ha hs
    exact⟨h1,v,h2,.inl h3⟩
  · obtain⟨h1,v,h2,h3⟩:=k a w ha hs
    exact⟨h1,v,h2,.inl h3⟩
theorem a1E {fn:Func} {m0:View} {R:Value→View→List Res→Prop} {X:Value→List Res→Prop} (h':List Res) (hle:m0.le m) (hd:h'.Sublist h) (hX:X v h') (hds:n.ds=[]:=by rfl) :
    ∀ a w,Fr n F a→St m h w→bodyPost P fn (RX m0 R X) (.panic [{ v:=v,recovered:=false }]) a w:=fun _ _ ha hs=>
  ⟨ha.d.trans hds,.inr ⟨v,h',rfl,(hs.sub hd).back hle,hX⟩⟩
theorem WL.panic {x:Operand} {t:TypeId} {u:Value} (ex:Ev n F x (.iface t u)) (k:∀ a w,Fr n F a→St m h w→Q (.panic [{ v:=.iface t u,recovered:=false }]) a w) :
    WL P ops Q n (⟨dst,.panic x,ty,pos,after,none⟩::rest) F h m:=.mk fun a w ha hs=>by
  refine E6 rfl ?_
  unfold Oper.wp
  have hr:(execOp a.eval ⟨dst,.panic x,ty,pos,after,none⟩).run P w=.halt (.panic (.iface t u)) w:=by
    simp[execOp,ex a ha]
    rfl
  rw[hr]
  exact k a w ha hs
theorem A1 {f:Operand} {args:List Operand} {tys:Array TypeId} {vs first cap:List Value} {q:FuncId} {R:Value→List Res→Prop} {X:Value→List Res→Prop} (ef:Ev n F f (.func (.func q) first.toArray cap.toArray)) (ea:Evs n F args vs)
    (c:CX P q (first++vs++cap) h m (fun v _ h'=>R v h') X) (hd:d < n.num) (kx:∀ v h',X v h'→∀ a w,Fr n F a→St m h' w→Q (.panic [{ v:=v,recovered:=false }]) a w) (k:∀ v h',R v h'→WL P ops Q n rest ((d,v)::F) h' m) :
    WL P ops Q n (⟨some d,.call ⟨.value f,args.toArray,tys⟩,ty,pos,after,none⟩::rest) F h m:=.mk fun a w ha hs=>by
  refine E6 rfl ?_
  unfold Oper.wp
  rw[R9 ha ef ea c.enter]
  refine Calls.mono (c.calls w hs) ?_
  rintro e w' (⟨v,m',h',rfl,hle,hst,hR⟩ | ⟨v,h',rfl,hst,hX⟩)
  · exact k v h' hR _ _ (ha.put hd v) (hst.back hle)
  · exact kx v h' hX a w' ha hst
theorem a1x {eff:List Nat} {t:Tl} {hs hp:List Res} {i:Nat} {s:Tr} {f:Operand} {args:List Operand} {tys:Array TypeId} {vs first cap:List Value} {q:FuncId} {R:Value→List Res→Prop} {X:List Res→Value→List Res→Prop}
    (ho:ops[i]?=some ⟨some d,.call ⟨.value f,args.toArray,tys⟩,ty,pos,after,none⟩) (he:eff.contains i=true) (ef:Ev n F f (.func (.func q) first.toArray cap.toArray)) (ea:Evs n F args vs)
    (c:∀ fr,CX P q (first++vs++cap) (hp++(fr++hs)) m (fun v _ h'=>∃ hp',h'=hp'++(fr++hs)∧R v hp') (X fr)) (hd:d < n.num)
    (kx:∀ fr v h',X fr v h'→∀ a w,Fr n [] a→St m h' w→Q (.panic [{ v:=v,recovered:=false }]) a w) (k:∀ v hp',R v hp'→SR P ops Q n eff t hs s ((d,v)::F) hp' m) :
    SR P ops Q n eff t hs (.op i s) F hp m:=⟨_,ho,fun x hx=>by cases hx;exact hd,by
  rw[he]
  refine⟨fun fr a w ha st=>⟨fun _=>?_,fun h=>by simp[Region.wanted] at h⟩⟩
  rw[R9 ha ef ea (c fr).enter]
  have hpm:(fr++(hp++hs)).Perm (hp++(fr++hs)):=by
    rw[← List.append_assoc,← List.append_assoc]
    exact List.perm_append_comm.append_right hs
  refine Calls.mono ((c fr).calls w (st.perm hpm)) ?_
  rintro e w' (⟨v,m',h',rfl,hle,hst,hp',rfl,hR⟩ | ⟨v,h',rfl,hst,hX⟩)
  · refine .inl ⟨v,rfl,m,hp',View.le.refl m,(hst.back hle).perm ?_,nofun,(k v hp' hR).e⟩
    rw[← List.append_assoc,← List.append_assoc]
    exact List.perm_append_comm.append_right hs
  · exact .inr ⟨_,rfl,fun a' ha'=>kx fr v h' hX a' w' ha' hst⟩⟩
theorem V5 {x:Operand} {t:TypeId} {fs:Array Field} (ht:P.underlying t=some (.struct fs)) (ex:Ev n F x v):PO P ⟨dst,.makeInterface t x,ty,pos,after,g⟩ n F h m (.iface t v):=.mk fun a w ha _=>by
  simp[execOp,ex a ha,Instr.makeInterface,run_underlying ht]
theorem a3c {x:Operand} {t s:TypeId} {fs:Array Field} (ht:P.underlying s=some (.struct fs)) (ex:Ev n F x (.iface s v)):PO P ⟨dst,.typeAssert x t s true,ty,pos,after,g⟩ n F h m (.tuple #[v,.bool true]):=.mk fun a w ha _=>by
  have h1:(Instr.typeAssert (.iface s v) t s true).run P w=.ok (.tuple #[v,.bool true]) w:=by
    simp[Instr.typeAssert,run_underlying ht]
  simp[execOp,ex a ha,h1]
theorem a8P {x y:Operand} {t t':TypeId} {ms:Array (String × TypeId)} (ht:P.underlying t=some (.interface ms)) (ex:Ev n F x .nilIface) (ey:y=.const .nilIface) :
    PO P ⟨dst,.binOp .neq t x y t',ty,pos,after,g⟩ n F h m (.bool false):=.mk fun b w ha _=>by
  subst ey
  have h1:∀ d,(Op.equalIn (d+1) t .nilIface .nilIface).run P w=.ok true w:=fun d=>by
    simp[Op.equalIn,run_underlying ht]
  have h2:(Op.equal t .nilIface .nilIface).run P w=.ok true w:=h1 9999
  have h3:(eqGuard .neq t x (.const .nilIface) .nilIface .nilIface).run P w=.ok () w:=by simp[eqGuard]
  have h4:b.eval (.const .nilIface)=.nilIface:=rfl
  simp[execOp,ex b ha,h4,binOp,h2,h3]
theorem a7E {x y:Operand} {t t' s:TypeId} {ms:Array (String × TypeId)} {u:Value} (ht:P.underlying t=some (.interface ms)) (ex:Ev n F x (.iface s u)) (ey:y=.const .nilIface) :
    PO P ⟨dst,.binOp .neq t x y t',ty,pos,after,g⟩ n F h m (.bool true):=.mk fun b w ha _=>by
  subst ey
  have h1:∀ d,(Op.equalIn (d+1) t (.iface s u) .nilIface).run P w=.ok false w:=fun d=>by
    simp[Op.equalIn,run_underlying ht]
  have h2:(Op.equal t (.iface s u) .nilIface).run P w=.ok false w:=h1 9999
  have h3:(eqGuard .neq t x (.const .nilIface) (.iface s u) .nilIface).run P w=.ok () w:=by simp[eqGuard]
  have h4:b.eval (.const .nilIface)=.nilIface:=rfl
  simp[execOp,ex b ha,h4,binOp,h2,h3]
end
end Go.Eng

namespace Go.Eng
open Go Go.RowKit
def a9e (q:FuncId) (cap:List Value):Deferred:={ target:=.fn (.func q) cap.toArray,args:=#[] }
section
variable {P:Program} {ops:Array Oper} {Q:Exit→Act→World→Prop} {n:Cx} {F:Fm} {h h':List Res} {m:View} {rest:List Oper}
variable {op:Op} {ty:TypeId} {pos:String} {after:Array Edge} {d:Nat} {v:Value} {dst:Option Nat} {g:Option (Nat × Bool)}
theorem WY.defer {f:Operand} {tys:Array TypeId} {q:FuncId} {cap:List Value} (hro:n.ro=none) (ef:Ev n F f (.func (.func q) #[] cap.toArray))
    (k:∀ a w,Fr { n with ds:=a9e q cap::n.ds } F a→St m h w→Q .normal a w) :
    WY P ops Q n [⟨none,.defer ⟨.value f,#[],tys⟩,ty,pos,after,none⟩] F h m:=.mk fun a w ha hs=>by
  unfold wpListIn
  rw[if_pos (show Region.wanted _ _=true from rfl)]
  refine⟨fun _ _=>trivial,?_⟩
  show Oper.uponIn (fen n.ro) 0 P _ a _ (Y2 Q) ((Oper.semAt n.ro a.eval _).run P w)
  rw[hro,Oper.semAt_none]
  have hr:(execOp a.eval ⟨none,.defer ⟨.value f,#[],tys⟩,ty,pos,after,none⟩).run P w=.ok (.defer (a9e q cap)) w:=by
    simp[execOp,resolve,ef a ha,Deferred.ofValue,a9e]
  rw[hr]
  exact k _ w ⟨by show a9e q cap::a.defers=_;rw[ha.d],by simpa [Act.put] using ha.sz,fun t v ht=>by simpa [Act.put] using ha.get t v ht⟩ hs
theorem CT.bodyD {f:FuncId} {args:List Value} {R:Value→View→List Res→Prop} {fn:Func} {c:Code} {F0:Fm} {N:Nat} (he:∀ as w,(callFunc f as).run P w=.ok (.enter f as) w)
    (hf:P.funcs[f]?=some fn) (hb:fn.body=some c) (hN:fn.ntmps=N) (hl:args.length≤N) (hF:a4B 0 args=some F0) (k:WC P c (bodyPostD P fn (RQ m R)) ⟨N,none,[]⟩ F0 h m):CT P f args h m R:=by
  have hF:=a3g hF
  subst hF hN
  exact⟨he,fun w hs=>calls_of_wp_defers hf hb (wpIn_wide.1 (wpIn_mono (k.e _ w (Fr.enter args fn.ntmps hl) hs) fun _ _ _ q=>a3A q))⟩
/-- What the deferred closure does. -/
def a8V (P:Program) (q:FuncId) (cap:List Value) (u:FrameMode) (m:View) (h h2:List Res):Prop:=
  ∀ w,St m h w→CallsD P q cap.toArray u w fun e u' w'=>(∃ v,e=.returned v)∧settle u'=.returning∧St m h2 w'
theorem b1g {fn:Func} {tmps:Array Value} {R:Ending→World→Prop} {q:FuncId} {cap:List Value} {u:FrameMode} {h2:List Res} {w:World} (he:∀ as w,(callFunc q as).run P w=.ok (.enter q as) w) (hu:u≠.run) (hd:a8V P q cap u m h h2) (hs:St m h w)
    (hr:∀ w',St m h2 w'→∃ v,(results fn tmps).run P w'=.ok v w'∧R (.returned v) w'):Leaves P fn tmps R [a9e q cap] u w:=by
  refine leaves_cons hu (f:=q) (args:=cap.toArray) (by simp[invoke,he]) ((hd w hs).mono ?_)
  rintro e u' w' ⟨⟨v,rfl⟩,hset,hs'⟩
  show Leaves P fn tmps R [] (settle u') w'
  rw[hset]
  exact hr w' hs'
theorem c2B {fn:Func} {ex:Exit} {m0:View} {R:Value→View→List Res→Prop} {r r' r'':ResultVar} {v v' v'':Value} {q:FuncId} {cap:List Value} (hex:ex=.ret∨ex=.normal) (hds:n.ds=[a9e q cap]) (he:∀ as w,(callFunc q as).run P w=.ok (.enter q as) w)
    (hd:a8V P q cap .returning m h h) (hfn:fn.results=#[r,r',r'']) (x1:RV P n F h m r v) (x2:RV P n F h m r' v') (x3:RV P n F h m r'' v'') (hle:m0.le m) (hsub:h'.Sublist h) (hR:R (.tuple #[v,v',v'']) m h') :
    ∀ a w,Fr n F a→St m h w→bodyPostD P fn (RQ m0 R) ex a w:=fun a w ha hs=>by
  have key:Leaves P fn a.tmps (RQ m0 R) a.defers .returning w:=by
    rw[ha.d,hds]
    refine b1g he (by simp) hd hs fun w' hs'=>⟨.tuple #[v,v',v''],?_,_,m,h',rfl,hle,hs'.sub hsub,hR⟩
    have h1:=x1.e a w' ha hs'
    have h2:=x2.e a w' ha hs'
    have h3:=x3.e a w' ha hs'
    simp[Y0,hfn,h1,h2,h3]
  rcases hex with rfl | rfl <;> exact key
theorem c5g {fn:Func} {m0:View} {R:Value→View→List Res→Prop} {r r' r'':ResultVar} {v v' v'' u:Value} {q:FuncId} {cap:List Value} {h2:List Res} (hds:n.ds=[a9e q cap]) (he:∀ as w,(callFunc q as).run P w=.ok (.enter q as) w)
    (hd:a8V P q cap (.panicking [{ v:=u,recovered:=false }]) m h h2) (hfn:fn.results=#[r,r',r'']) (x1:RV P n F h2 m r v) (x2:RV P n F h2 m r' v') (x3:RV P n F h2 m r'' v'') (hle:m0.le m) (hsub:h'.Sublist h2) (hR:R (.tuple #[v,v',v'']) m h') :
    ∀ a w,Fr n F a→St m h w→bodyPostD P fn (RQ m0 R) (.panic [{ v:=u,recovered:=false }]) a w:=fun a w ha hs=>by
  show Leaves P fn a.tmps (RQ m0 R) a.defers (.panicking [{ v:=u,recovered:=false }]) w
  rw[ha.d,hds]
  refine b1g he (by simp) hd hs fun w' hs'=>⟨.tuple #[v,v',v''],?_,_,m,h',rfl,hle,hs'.sub hsub,hR⟩
  have h1:=x1.e a w' ha hs'
  have h2:=x2.e a w' ha hs'
  have h3:=x3.e a w' ha hs'
  simp[Y0,hfn,h1,h2,h3]
/-- What follows the call of recover ends in this. -/
def c3H (P:Program) (fn:Func) (m:View) (h2:List Res):Exit→Act→World→Prop:=fun e a w=>
  (e=.normal∨e=.ret)∧a.defers=[]∧(∃ v,(results fn a.tmps).run P w=.ok v w)∧St m h2 w
theorem a6Y {fn:Func} {ex:Exit} {h2:List Res} (hex:ex=.ret∨ex=.normal) (hfn:fn.results=#[]) (hd:h2.Sublist h) (hds:n.ds=[]:=by rfl):∀ a w,Fr n F a→St m h w→c3H P fn m h2 ex a w:=fun a w ha hs=>
  ⟨hex.symm,ha.d.trans hds,⟨.tuple #[],by simp[results,hfn]⟩,hs.sub hd⟩
theorem b7G {fn:Func} {c0:Frame} {cs:List Frame} {u2:FrameMode} {h2:List Res} (hset:settle u2=.returning) {e:Exit} {a:Act} {w:World} (q:c3H P fn m h2 e a w) :
    bodyPostS P fn c0 cs (fun e u' w'=>(∃ v,e=.returned v)∧settle u'=.returning∧St m h2 w') e a ({ c0 with mode:=u2 }::cs) w:=by
  obtain⟨he,h1,⟨v,h3⟩,h4⟩:=q
  rcases he with rfl | rfl <;> exact⟨h1,u2,rfl,v,h3,⟨v,rfl⟩,hset,h4⟩
theorem b8a {Q:Exit→Act→List Frame→World→Prop} {i:Nat} {l:List Nat} {o:Oper} {a:Act} {cs:List Frame} {w:World} (ho:ops[i]?=some o) (hw:Region.wanted o (yielded ops a.tmps)=true) (hr:(execOp a.eval o).run P w=.ok .recover w)
    (h1:∀ v cs',recoverD cs=some (v,cs')→wpOpsS P ops Q l (a.put o.dst v) cs' w) (h2:recoverD cs=none→wpOpsS P ops Q l (a.put o.dst .nilIface) cs w):wpOpsS P ops Q (i::l) a cs w:=by
  unfold wpOpsS
  simp only[ho]
  rw[if_pos hw,hr]
  simp only
  split
  · rename_i v cs' e
    exact h1 v cs' e
  · rename_i e
    exact h2 e
theorem b2g {Q:Exit→Act→List Frame→World→Prop} {i:Nat} {l:List Nat} {o:Oper} {a:Act} {cs:List Frame} {w:World} {v:Value} (ho:ops[i]?=some o) (hw:Region.wanted o (yielded ops a.tmps)=true) (hr:(execOp a.eval o).run P w=.ok (.value v) w)
    (h1:wpOpsS P ops Q l (a.put o.dst v) cs w):wpOpsS P ops Q (i::l) a cs w:=by
  unfold wpOpsS
  simp only[ho]
  rw[if_pos hw,hr]
  exact h1
/-- A closure that begins by 'r := recover()'. -/
theorem a79 {q:FuncId} {cap:List Value} {fn:Func} {l:List Oper} {id dr d2:Nat} {t1 t2:TypeId} {p1 p2:String} {a1 a2:Array Edge} {y:Code} {u u2:FrameMode} {r:Value} {N:Nat} {F0:Fm} {h2:List Res} (hf:P.funcs[q]?=some fn) (hb:fn.body=some (.seq (.region id l.toArray false) y))
    (hl0:l=[⟨some dr,.call ⟨.builtin .recover,#[],#[]⟩,t1,p1,a1,none⟩,⟨some d2,.assign (.tmp dr),t2,p2,a2,none⟩]) (hN:fn.ntmps=N) (hl:cap.length≤N) (hF:a4B 0 cap=some F0) (hdr:dr < N) (hd2:d2 < N)
    (hrec:∀ (c0:Frame) cs,c0.mode=u→(recoverD (c0::cs)=some (r,{ c0 with mode:=u2 }::cs))∨(recoverD (c0::cs)=none∧r=.nilIface∧u2=u)) (hset:settle u2=.returning)
    (k:WC P y (c3H P fn m h2) ⟨N,none,[]⟩ ((d2,r)::(dr,r)::F0) h m):a8V P q cap u m h h2:=fun w hs=>by
  have hF:=a3g hF
  subst hF hN hl0
  refine callsD_of_wpS hf hb fun c0 cs hu=>wpS_seq (wpS_region ?_)
  have fr0:=Fr.enter cap fn.ntmps hl
  have fr1:=fr0.put hdr r
  have fr2:=fr1.put hd2 r
  have fin:∀ cs',cs'={ c0 with mode:=u2 }::cs→y.wpS P (bodyPostS P fn c0 cs (fun e u' w'=>(∃ v,e=.returned v)∧settle u'=.returning∧St m h2 w')) _ cs' w:=fun cs' e=>by
    subst e
    exact wpS_of_wp (wp_mono (wpIn_wide.1 (k.e _ w fr2 hs)) fun e a' w' q=>b7G hset (a3A q))
  have hx:∀ (a:Act),(execOp a.eval ⟨some dr,.call ⟨.builtin .recover,#[],#[]⟩,t1,p1,a1,none⟩).run P w=.ok .recover w:=fun a=>by
    simp[execOp,resolve,invoke,builtin]
  have hy:∀ (a:Act),a.tmps[dr]?=some r→(execOp a.eval ⟨some d2,.assign (.tmp dr),t2,p2,a2,none⟩).run P w=.ok (.value r) w:=fun a h=>by
    simp[execOp,Act.eval,h]
  have hget:=fr1.get dr r (by simp[look])
  show wpOpsS P _ _ [0,1] _ (c0::cs) w
  refine b8a rfl rfl (hx _) (fun v cs' e=>?_) (fun e=>?_)
  · rcases hrec c0 cs hu with h1 | ⟨h1,_⟩
    · rw[h1] at e
      cases e
      exact b2g rfl rfl (hy _ hget) (fin _ rfl)
    · rw[h1] at e
      cases e
  · rcases hrec c0 cs hu with h1 | ⟨_,rfl,rfl⟩
    · rw[h1] at e
      cases e
    · exact b2g rfl rfl (hy _ hget) (fin _ (by rw[← hu]))
theorem b2J {u:FrameMode} (hu:u=.returning) (c0:Frame) (cs:List Frame) (h:c0.mode=u):(recoverD (c0::cs)=some (Value.nilIface,{ c0 with mode:=u }::cs))∨(recoverD (c0::cs)=none∧Value.nilIface=Value.nilIface∧u=u):=by
  subst hu
  refine .inr ⟨?_,rfl,rfl⟩
  simp only[recoverD,h]
theorem b1B {v:Value} (c0:Frame) (cs:List Frame) (h:c0.mode=.panicking [{ v:=v,recovered:=false }]):(recoverD (c0::cs)=some (v,{ c0 with mode:=.panicking [{ v:=v,recovered:=true }] }::cs))∨(recoverD (c0::cs)=none∧v=Value.nilIface∧(.panicking [{ v:=v,recovered:=true }]:FrameMode)=.panicking [{ v:=v,recovered:=false }]):=by
  refine .inl ?_
  simp only[recoverD,h]
theorem a8K (v:Value):settle (.panicking [{ v:=v,recovered:=true }])=.returning:=rfl
end
end Go.Eng

namespace Go.Eng
open Go Go.RowKit
section
variable {P:Program} {ops:Array Oper} {Q:Exit→Act→World→Prop} {n:Cx} {F:Fm} {m:View}
variable {ty:TypeId} {pos:String} {after:Array Edge} {d:Nat}
theorem b8Y {α:Type} {enc:α→List Value} {e sz:Nat} {xs:List α} {eff:List Nat} {t:Tl} {hs hp hp0:List Res} {r:Res} {i:Nat} {s:Tr} {f:Operand} {args:List Operand} {tys:Array TypeId} {vs first cap:List Value} {q:FuncId}
    (ho:ops[i]?=some ⟨some d,.call ⟨.value f,args.toArray,tys⟩,ty,pos,after,none⟩) (he:eff.contains i=true) (ef:Ev n F f (.func (.func q) first.toArray cap.toArray)) (ea:Evs n F args vs) (hdel:Del hp r hp0)
    (c:∀ fr,CT P q (first++vs++cap) (r::(fr++(hp0++hs))) m (fun v _ h'=>b3v enc e sz (fr++(hp0++hs)) xs v h')) (hd:d < n.num)
    (k:∀ a c,SR P ops Q n eff t hs s ((d,.slice a xs.length c)::F) (.row (.slice a xs.length c) e sz xs.length (fl enc xs)::hp0) m):SR P ops Q n eff t hs (.op i s) F hp m:=⟨_,ho,fun x hx=>by cases hx;exact hd,by
  rw[he]
  refine⟨fun fr a w ha st=>⟨fun _=>?_,fun h=>by simp[Region.wanted] at h⟩⟩
  rw[R9 ha ef ea (c fr).enter]
  have hpm:(fr++(hp++hs)).Perm (r::(fr++(hp0++hs))):=
    ((hdel.perm.append_right hs).append_left fr).trans List.perm_middle
  refine Calls.mono ((c fr).calls w (st.perm hpm)) ?_
  rintro e w' ⟨v',m',h',rfl,hle,hst,a1,c1,k1,rfl,rfl,rfl⟩
  exact .inl ⟨_,rfl,m,_,View.le.refl m,(hst.perm (List.perm_middle (l₁:=fr) (l₂:=hp0++hs)).symm).back hle,nofun,(k a1 c1).e⟩⟩
theorem G8 {α:Type} {enc:α→List Value} {e sz:Nat} {xs:List α} {eff:List Nat} {t:Tl} {hs hp:List Res} {i:Nat} {s:Tr} {f:Operand} {args:List Operand} {tys:Array TypeId} {vs first cap:List Value} {q:FuncId}
    (ho:ops[i]?=some ⟨some d,.call ⟨.value f,args.toArray,tys⟩,ty,pos,after,none⟩) (he:eff.contains i=true) (ef:Ev n F f (.func (.func q) first.toArray cap.toArray)) (ea:Evs n F args vs)
    (c:∀ fr,CT P q (first++vs++cap) (fr++(hp++hs)) m (fun v _ h'=>b3v enc e sz (fr++(hp++hs)) xs v h')) (hd:d < n.num)
    (k:∀ a c,SR P ops Q n eff t hs s ((d,.slice a xs.length c)::F) (.row (.slice a xs.length c) e sz xs.length (fl enc xs)::hp) m):SR P ops Q n eff t hs (.op i s) F hp m:=⟨_,ho,fun x hx=>by cases hx;exact hd,by
  rw[he]
  refine⟨fun fr a w ha st=>⟨fun _=>?_,fun h=>by simp[Region.wanted] at h⟩⟩
  rw[R9 ha ef ea (c fr).enter]
  refine Calls.mono ((c fr).calls w st) ?_
  rintro e w' ⟨v',m',h',rfl,hle,hst,a1,c1,k1,rfl,rfl,rfl⟩
  exact .inl ⟨_,rfl,m,_,View.le.refl m,(hst.perm (List.perm_middle (l₁:=fr) (l₂:=hp++hs)).symm).back hle,nofun,(k a1 c1).e⟩⟩
end
end Go.Eng

namespace Go.Eng
open Go Go.RowKit
section
variable {P:Program} {ops:Array Oper} {Q:Exit→Act→World→Prop} {n:Cx} {F:Fm} {h hp hs:List Res} {m:View}
variable {ty:TypeId} {pos:String} {after:Array Edge} {d:Nat} {dst:Option Nat} {g:Option (Nat × Bool)}
theorem b4y {x i:Operand} {t e len:Nat} {u:TypeDesc} {k:IntKind} {j:Int} {q:Nat} {cs:List Value} {v:Value} (ht:P.underlying t=some (.array len e)) (he:P.underlying e=some u) (hp:M9 u=true)
    (hsz:(P.info? e).map (·.size)=some 1) (ex:Ev n F x (.agg cs.toArray)) (ei:Ev n F i (.int k j)) (hj:j=(q:Int)) (hq:q < len) (hv:cs[q]?=some v) :
    PO P ⟨dst,.index t x i,ty,pos,after,g⟩ n F h m v:=.mk fun b w ha _=>by
  subst hj
  have e1:¬ len≤q:=by omega
  have hs:(sizeOf e).run P w=.ok 1 w:=by
    cases hi:P.info? e with
    | none=>rw[hi] at hsz;cases hsz
    | some y=>rw[hi] at hsz;simp at hsz;simp[sizeOf,typeInfo,hi,hsz]
  simp[execOp,ex b ha,ei b ha,Instr.index,asIntOf,run_underlying ht,part,L7 w he hp,hs,hv,e1]
theorem a1N {eff tt:List Nat} {tl:List Oper} {H:List Res} (htl:tt.filterMap (ops[·]?)=tl) (hH:(hp++hs).Perm H) (k:WL P ops Q n tl F H m):SR P ops Q n eff ⟨tt,[]⟩ hs .nil F hp m:=
  ⟨by subst htl;exact WL.perm hH k⟩
theorem X0 {α:Type} (bl l t:List α):(bl++(l++t)).Perm (l++(bl++t)):=by
  rw[← List.append_assoc,← List.append_assoc]
  exact List.perm_append_comm.append_right t
end
end Go.Eng

namespace Go.Eng
open Go Go.RowKit
section
variable {H:Type} {enc:TypeId × Value→H} {P:Program} {W:World} {held:Bool} {P8:Nat} {t:TypeId} {cs:List Value} {x:DataW H × List MemPlace}
end
end Go.Eng
end
section
namespace Go.Eng
open Go Go.RowKit
section
variable {P:Program} {Q:Exit→Act→World→Prop} {n:Cx} {y:Code}
def KK (P:Program) (y:Code) (Q:Exit→Act→World→Prop) (ro:Option Nat) (a:Act) (w:World):Prop:=y.wpIn (fen ro) 0 P (Y2 Q) a w
theorem KKh:∀ ds F h m,WC P y Q { n with ds:=ds } F h m→∀ a w,Fr { n with ds:=ds } F a→St m h w→KK P y Q n.ro a w:=fun _ _ _ _ k=>k.e
end
section
variable {P:Program} {ops:Array Oper} {Q:Exit→Act→World→Prop} {n:Cx} {F:Fm} {h h':List Res} {m:View} {rest:List Oper}
variable {op:Op} {ty:TypeId} {pos:String} {after:Array Edge} {d:Nat} {v:Value} {dst:Option Nat} {g:Option (Nat × Bool)}
theorem Et {t:Nat} (h:look F t=some v:=by exact rfl):Ev n F (.tmp t) v:=Ev.tmp h
theorem Eg {t:Nat} {c:Bool} (hc:c=true) (h:look F t=some (gv c v):=by exact rfl):Ev n F (.tmp t) v:=U3 h hc
theorem E0:Evs n F [] []:=Evs.nil
theorem E1 {x:Operand} (a:Ev n F x v):Evs n F [x] [v]:=.cons a .nil
theorem E2 {x x2:Operand} {v2:Value} (a:Ev n F x v) (a2:Ev n F x2 v2):Evs n F [x,x2] [v,v2]:=.cons a (.cons a2 .nil)
theorem E3 {x x2 x3:Operand} {v2 v3:Value} (a:Ev n F x v) (a2:Ev n F x2 v2) (a3:Ev n F x3 v3):Evs n F [x,x2,x3] [v,v2,v3]:=.cons a (.cons a2 (.cons a3 .nil))
theorem E4 {x x2 x3 x4:Operand} {v2 v3 v4:Value} (a:Ev n F x v) (a2:Ev n F x2 v2) (a3:Ev n F x3 v3) (a4:Ev n F x4 v4):Evs n F [x,x2,x3,x4] [v,v2,v3,v4]:=.cons a (.cons a2 (.cons a3 (.cons a4 .nil)))
theorem Me {α:Type} {a:α} {l:List α} (h:List.Mem a l:=by repeat (first | exact a0J _ | apply a0E)):List.Mem a l:=h
theorem Sb {α:Type} {l r:List α} (h:l.Sublist r:=by repeat (first | exact sub0 _ | exact c4U _ _ | exact c5L _ _ | refine c4K _ ?_ | apply c5P | refine c4O _ ?_)):l.Sublist r:=h
theorem Up {r r':Res} {l l':List Res} (h:Upd l r r' l':=by repeat (first | exact Upd.here | apply Upd.next)):Upd l r r' l':=h
theorem De {r:Res} {l l':List Res} (h:Del l r l':=by repeat (first | exact Del.here | apply Del.next)):Del l r l':=h
theorem Rr {a:Option Addr} {k c sz:Nat} {xs:List Value} (hr:Rd m h a k c sz xs:=by first | assumption | exact Rd.ofSl (by assumption) | exact Rd.ofPt rfl (by decide) Me | exact Rd.mono (by assumption) (View.le.refl _) Sb | exact Rd.inRow Me (by assumption) (by assumption) (by assumption)):Rd m h a k c sz xs:=hr
theorem On {ys:List Value} (h:∀ u ∈ ys,u.oneCell'=true:=by first | exact b4u rfl | exact b5A (fun _=>rfl) _):∀ u ∈ ys,u.oneCell'=true:=h
theorem xG (hp:PO P ⟨some d,op,ty,pos,after,none⟩ n F h m v) (k:WL P ops Q n rest ((d,v)::F) h m) (hn:Nat.ble (d+1) n.num=true:=by exact rfl) :
    WL P ops Q n (⟨some d,op,ty,pos,after,none⟩::rest) F h m:=c5R hp (leB hn) k
theorem xM {t:Nat} (k:WL P ops Q n rest ((d,v)::F) h m) (h1:look F t=some v:=by exact rfl) (hn:Nat.ble (d+1) n.num=true:=by exact rfl) :
    WL P ops Q n (⟨some d,.move (.tmp t),ty,pos,after,none⟩::rest) F h m:=xG (PO.move (Ev.tmp h1)) k hn
theorem xK (k:WL P ops Q n rest ((d,v)::F) h m) (hn:Nat.ble (d+1) n.num=true:=by exact rfl) :
    WL P ops Q n (⟨some d,.move (.const v),ty,pos,after,none⟩::rest) F h m:=xG (PO.move Ev.const) k hn
theorem xA {t:Nat} (k:WL P ops Q n rest ((d,v)::F) h m) (h1:look F t=some v:=by exact rfl) (hn:Nat.ble (d+1) n.num=true:=by exact rfl) :
    WL P ops Q n (⟨some d,.assign (.tmp t),ty,pos,after,none⟩::rest) F h m:=xG (PO.assign (Ev.tmp h1)) k hn
theorem xC (k:WL P ops Q n rest ((d,v)::F) h m) (hn:Nat.ble (d+1) n.num=true:=by exact rfl) :
    WL P ops Q n (⟨some d,.assign (.const v),ty,pos,after,none⟩::rest) F h m:=xG (PO.assign Ev.const) k hn
theorem xE {t i:Nat} {vs:Array Value} (k:WL P ops Q n rest ((d,v)::F) h m) (h1:look F t=some (.tuple vs):=by exact rfl) (h2:vs[i]?=some v:=by exact rfl) (hn:Nat.ble (d+1) n.num=true:=by exact rfl) :
    WL P ops Q n (⟨some d,.extract (.tmp t) i,ty,pos,after,none⟩::rest) F h m:=xG (PO.extract (Ev.tmp h1) h2) k hn
theorem xP {t u:Nat} {c b:Bool} (k:WL P ops Q n rest ((d,.bool (c&&b))::F) h m) (h1:look F t=some (.bool c):=by exact rfl) (h2:look F u=some (gv c (.bool b)):=by exact rfl) (hn:Nat.ble (d+1) n.num=true:=by exact rfl) :
    WL P ops Q n (⟨some d,.pick (.tmp t) (.tmp u) (.const (.bool false)),ty,pos,after,none⟩::rest) F h m:=xG (a4J h1 h2) k hn
theorem xQ {t u:Nat} {c b:Bool} (k:WL P ops Q n rest ((d,.bool (c||b))::F) h m) (h1:look F t=some (.bool c):=by exact rfl) (h2:look F u=some (gv (!c) (.bool b)):=by exact rfl) (hn:Nat.ble (d+1) n.num=true:=by exact rfl) :
    WL P ops Q n (⟨some d,.pick (.tmp t) (.const (.bool true)) (.tmp u),ty,pos,after,none⟩::rest) F h m:=xG (a9T h1 h2) k hn
theorem xF {x:Operand} {t i:Nat} {fs:Array Field} {f:Field} {b off:Nat} (ht:P.underlying t=some (.struct fs)) (k:WL P ops Q n rest ((d,.pointer (some ⟨b,off+f.offset,none⟩))::F) h m) (hf:fs[i]?=some f:=by exact rfl) (hz:P.cellsOf f.type≠0:=by exact Nat.ne_of_beq_eq_false rfl)
    (ex:Ev n F x (.pointer (some ⟨b,off,none⟩)):=by exact Ev.tmp rfl) (hn:Nat.ble (d+1) n.num=true:=by exact rfl):WL P ops Q n (⟨some d,.fieldAddr t x i,ty,pos,after,none⟩::rest) F h m:=xG (PO.fieldAddr ht hf hz ex) k hn
theorem pL {x:Operand} {t:TypeId} {u:TypeDesc} {b off:Nat} {cs:List Value} {e:TypeId} {fz:Nat × Nat} (ht:P.underlying t=some u) (hp:M9 u=true:=by exact rfl)
    (ex:Ev n F x (.pointer (some ⟨b,off,none⟩)):=by exact Ev.tmp rfl) (hm:List.Mem (Res.pt b (.cells cs.toArray e fz)) h:=by repeat (first | exact a0J _ | apply a0E)) (hv:cs[off]?=some v:=by exact rfl):PO P ⟨dst,.load t x,ty,pos,after,g⟩ n F h m v:=D4 ht hp ex hm hv
theorem pA {x:Operand} {t:TypeId} {u:TypeDesc} {b off:Nat} {cs:List Value} {e:TypeId} {fz:Nat × Nat} {vs:List Value} (ht:P.underlying t=some u) (hp:M9 u=false:=by exact rfl)
    (hq:(P.info? t).isSome=true:=by exact rfl) (ex:Ev n F x (.pointer (some ⟨b,off,none⟩)):=by exact Ev.tmp rfl) (hm:List.Mem (Res.pt b (.cells cs.toArray e fz)) h:=by repeat (first | exact a0J _ | apply a0E)) (hv:seg cs off (P.cellsOf t)=some vs:=by exact rfl) :
    PO P ⟨dst,.load t x,ty,pos,after,g⟩ n F h m (.agg vs.toArray):=M0 ht hp hq ex hm hv
theorem pF {x:Operand} {t i:Nat} {fs:Array Field} {f:Field} {b off:Nat} (ht:P.underlying t=some (.struct fs)) (hf:fs[i]?=some f:=by exact rfl) (hz:P.cellsOf f.type≠0:=by exact Nat.ne_of_beq_eq_false rfl)
    (ex:Ev n F x (.pointer (some ⟨b,off,none⟩)):=by exact Ev.tmp rfl):PO P ⟨dst,.fieldAddr t x i,ty,pos,after,g⟩ n F h m (.pointer (some ⟨b,off+f.offset,none⟩)):=PO.fieldAddr ht hf hz ex
theorem xS {x y:Operand} {t:TypeId} {b off:Nat} {cs cs' vs:List Value} {e:TypeId} (k:WL P ops Q n rest F h' m) (ex:Ev n F x (.pointer (some ⟨b,off,none⟩)):=by exact Ev.tmp rfl) (ey:Ev n F y v:=by first | exact Ev.tmp rfl | exact Ev.const)
    (hvs:Q5 v=some vs:=by exact rfl) (hq:(P.info? t).map (·.size)=some vs.length:=by exact rfl) (h1:vs.all (·.oneCell')=true:=by exact rfl) (h0:vs.isEmpty=false:=by exact rfl) 
    (u:Upd h (.pt b (.cells cs.toArray e (0,0))) (.pt b (.cells cs'.toArray e (0,0))) h':=by repeat (first | exact Upd.here | apply Upd.next)) (hc:a0C cs off vs=some cs':=by exact rfl) :
    WL P ops Q n (⟨none,.store t x y,ty,pos,after,none⟩::rest) F h m:=WL.store hq ex ey hvs h1 h0 hc u k
theorem xW {t:TypeId} {z:Value} {zs:List Value} (k:∀ b,WL P ops Q n rest ((d,.pointer (some ⟨b,0,none⟩))::F) (.pt b (.cells zs.toArray t (0,0))::h) m) (hz:(P.info? t).bind (·.zero)=some z:=by exact rfl) (hzs:Q5 z=some zs:=by exact rfl) (hn:Nat.ble (d+1) n.num=true:=by exact rfl) :
    WL P ops Q n (⟨some d,.alloc t,ty,pos,after,none⟩::rest) F h m:=WL.alloc hz hzs (leB hn) k
theorem xX {x:Operand} {t:TypeId} {zs:List Value} (k:∀ b,WL P ops Q n rest ((d,.pointer (some ⟨b,0,none⟩))::F) (.pt b (.cells zs.toArray t (0,0))::h) m) (ex:Ev n F x v:=by exact Ev.tmp rfl) (hzs:Q5 v=some zs:=by exact rfl) (hn:Nat.ble (d+1) n.num=true:=by exact rfl) :
    WL P ops Q n (⟨some d,.box t x,ty,pos,after,none⟩::rest) F h m:=WL.box ex hzs (leB hn) k
theorem xD {x y:Operand} {t e:TypeId} {sz by_ l cap k c l':Nat} {a b:Option Addr} {xs ys zs:List Value} {hq:Value→List Res} (E:EL P t e sz by_) (ex:Ev n F x (.slice a l cap)) (ey:Ev n F y (.slice b k c)) (hl:l+k=l') (hz:xs++ys=zs) (kk:∀ a' cap',WL P ops Q n rest ((d,.slice a' l' cap')::F) (hq (.slice a' l' cap')) m)
    (u:∀ v',Upd h (.row (.slice a l cap) e sz l xs) (.row v' e sz l' zs) (hq v'):=by intro v';repeat (first | exact Upd.here | apply Upd.next)) (rd:Rd m h b k c sz ys:=by first | assumption | exact Rd.ofSl (by assumption) | exact Rd.ofPt rfl (by decide) Me | exact Rd.mono (by assumption) (View.le.refl _) Sb | exact Rd.inRow Me (by assumption) (by assumption) (by assumption))
    (h1:∀ u ∈ ys,u.oneCell'=true:=by first | exact b4u rfl | exact b5A (fun _=>rfl) _) (h63:l'≤9223372036854775807:=by omega) (hbytes:l' * by_≤140737488355328:=by omega) (hn:Nat.ble (d+1) n.num=true:=by exact rfl) :
    WL P ops Q n (⟨some d,.call ⟨.builtin .append,#[x,y],#[t,t]⟩,ty,pos,after,none⟩::rest) F h m:=b3p E ex ey rd h1 hl hz h63 hbytes u (leB hn) kk
theorem xY {t e k:Nat} {sz by_:Nat} {ps:List (Nat × Operand)} {vs:List (Nat × Value)} {z:Value} {zs cs:List Value} (E:EL P t e sz by_) (ev:EvP n F ps vs)
    (kk:∀ b,WL P ops Q n rest ((d,.slice (some ⟨b,0,none⟩) k k)::F) (.pt b (.cells cs.toArray e (0,0))::h) m) (hz:(P.info? e).bind (·.zero)=some z:=by exact rfl)
    (hzs:a8G z k=some zs:=by exact rfl) (hf:a3r (fun i=>some (i * sz,sz)) zs vs=some cs:=by exact rfl) (hk:k * sz≤16777216:=by decide) (h0:Nat.beq (k * sz) 0=false:=by exact rfl) (hn:Nat.ble (d+1) n.num=true:=by exact rfl) :
    WL P ops Q n (⟨some d,.buildSlice t k ps.toArray,ty,pos,after,none⟩::rest) F h m:=WL.buildSlice E hz ev hzs hf hk h0 (leB hn) kk
theorem xf {args:List Operand} {tys:Array TypeId} {vs:List Value} {q:FuncId} (ea:Evs n F args vs) (c:CT P q vs h m (A7 h v)) (k:WL P ops Q n rest ((d,v)::F) h m) (hn:Nat.ble (d+1) n.num=true:=by exact rfl) :
    WL P ops Q n (⟨some d,.call ⟨.value (.func q),args.toArray,tys⟩,ty,pos,after,none⟩::rest) F h m:=M7 (first:=[]) (cap:=[]) Ev.func ea (by simpa using c) (leB hn) k
theorem xg {args:List Operand} {tys:Array TypeId} {vs:List Value} {q:FuncId} {R:Value→List Res→Prop} (ea:Evs n F args vs) (c:CT P q vs h m (fun v _ h'=>R v h')) (k:∀ v h',R v h'→WL P ops Q n rest ((d,v)::F) h' m) (hn:Nat.ble (d+1) n.num=true:=by exact rfl) :
    WL P ops Q n (⟨some d,.call ⟨.value (.func q),args.toArray,tys⟩,ty,pos,after,none⟩::rest) F h m:=G0 (first:=[]) (cap:=[]) Ev.func ea (by simpa using c) (leB hn) k
theorem zG {gd:Nat × Bool} {c:Bool} (hp:c=true→PO P ⟨some d,op,ty,pos,after,some gd⟩ n F h m v) (k:WL P ops Q n rest ((d,gv c v)::F) h m)
    (hg:GU ops n F gd c:=by first | exact GU.t rfl rfl | exact GU.f rfl rfl | exact Z1 rfl rfl | exact a3u rfl rfl) (hn:Nat.ble (d+1) n.num=true:=by exact rfl) :
    WL P ops Q n (⟨some d,op,ty,pos,after,some gd⟩::rest) F h m:=E8 hg hp (leB hn) k
theorem zM {gd:Nat × Bool} {c:Bool} {t:Nat} (k:WL P ops Q n rest ((d,gv c v)::F) h m) (h1:look F t=some v:=by exact rfl)
    (hg:GU ops n F gd c:=by first | exact GU.t rfl rfl | exact GU.f rfl rfl | exact Z1 rfl rfl | exact a3u rfl rfl) (hn:Nat.ble (d+1) n.num=true:=by exact rfl) :
    WL P ops Q n (⟨some d,.move (.tmp t),ty,pos,after,some gd⟩::rest) F h m:=E8 hg (fun _=>PO.move (Ev.tmp h1)) (leB hn) k
theorem zV {gd:Nat × Bool} {c:Bool} {t:Nat} (k:WL P ops Q n rest ((d,gv c v)::F) h m)
    (hg:GU ops n F gd c:=by first | exact GU.t rfl rfl | exact GU.f rfl rfl | exact Z1 rfl rfl | exact a3u rfl rfl) (h1:look F t=some (gv c v):=by exact rfl) (hn:Nat.ble (d+1) n.num=true:=by exact rfl) :
    WL P ops Q n (⟨some d,.move (.tmp t),ty,pos,after,some gd⟩::rest) F h m:=E8 hg (fun hc=>PO.move (U3 h1 hc)) (leB hn) k
theorem zU {gd:Nat × Bool} (k:WL P ops Q n (⟨dst,op,ty,pos,after,none⟩::rest) F h m)
    (hg:GU ops n F gd true:=by first | exact GU.t rfl rfl | exact GU.f rfl rfl) :
    WL P ops Q n (⟨dst,op,ty,pos,after,some gd⟩::rest) F h m:=c05 hg rfl k
theorem kp (ts:List Nat) {F':Fm} {K:Act→World→Prop} {y:Code} (k:WC P y Q n F' h m) (hk:a3w F ts=some F':=by exact rfl) (hK:∀ ds F h m,WC P y Q { n with ds:=ds } F h m→∀ a w,Fr { n with ds:=ds } F a→St m h w→K a w:=by first | exact KKh | assumption):∀ a w,Fr n F a→St m h w→K a w:=b2l hk (toK hK k)
theorem wn (ts:List Nat) {F':Fm} {K:Act→World→Prop} {y:Code} {Q':Exit→Act→World→Prop} (k:WC P y Q n F' h m) (hq:Q' .normal=K:=by exact rfl) (hk:a3w F ts=some F':=by exact rfl) (hK:∀ ds F h m,WC P y Q { n with ds:=ds } F h m→∀ a w,Fr { n with ds:=ds } F a→St m h w→K a w:=by first | exact KKh | assumption) :
    WL P ops Q' n [] F h m:=WL.nil (hq ▸ b2l hk (toK hK k))
theorem wc {t:Nat} {x y:Code} {b:Bool} (kt:b=true→WC P x Q n F h m) (kf:b=false→WC P y Q n F h m) (h1:look F t=some (.bool b):=by exact rfl):WC P (.cond (.tmp t) x y) Q n F h m:=WC.cond (Ev.tmp h1) kt kf
theorem wR (hh:List Res) {fn:Func} {m0:View} {R:Value→View→List Res→Prop} {r:ResultVar} (hR:R v m hh) (hfn:fn.results=#[r]:=by exact rfl) (h1:RV P n F h m r v:=by exact RV.tmp rfl) (hle:m0.le m:=by exact View.le.refl _) (hd:hh.Sublist h:=by repeat (first | exact sub0 _ | exact c4U _ _ | exact c5L _ _ | refine c4K _ ?_ | apply c5P | refine c4O _ ?_)) (hds:n.ds=[]:=by exact rfl) :
    ∀ a w,Fr n F a→St m h w→bodyPost P fn (RQ m0 R) .ret a w:=I2 (.inl rfl) hfn h1 hle hd hR hds
theorem wV {l:List Oper} {b b':Bool} (e:b=b') (k:WL P ops Q n l ((d,.bool b')::F) h m):WL P ops Q n l ((d,.bool b)::F) h m:=e ▸ k
theorem sk {x y:Code} (k:∀ K:Act→World→Prop,(∀ ds F h m,WC P y Q { n with ds:=ds } F h m→∀ a w,Fr { n with ds:=ds } F a→St m h w→K a w)→WC P x (Exit.then K Q) n F h m):WC P (.seq x y) Q n F h m:=c1p k
theorem bk {id:Nat} {c:Code} (k:WC P c (Exit.inBlock id Q) n F h m):WC P (.block id c) Q n F h m:=WC.block k
theorem rg {id:Nat} {l:List Oper} {G:List (Option Nat)} (k:∀ ops:Array Oper,(∀ j t,G[j]?=some (some t)→a1z ops j=some t)→WL P ops Q n l F h m) (hG:a8p l=some G:=by exact rfl):WC P (.region id l.toArray false) Q n F h m:=a7i hG k
theorem rn {id:Nat} {l:List Oper} {G:List (Option Nat)} (k:∀ ops:Array Oper,WL P ops Q n l F h m) (hG:a8p l=some G:=by exact rfl):WC P (.region id l.toArray false) Q n F h m:=a7i hG fun o _=>k o
end
section
variable {P:Program} {ops:Array Oper} {Q:Exit→Act→World→Prop} {n:Cx} {F:Fm} {m:View} {eff:List Nat} {t:Tl} {hs hp:List Res} {i:Nat} {s:Tr}
variable {op:Op} {ty:TypeId} {pos:String} {after:Array Edge} {d:Nat} {v:Value}
theorem yG (ho:ops[i]?=some ⟨some d,op,ty,pos,after,none⟩) (p:PO P ⟨some d,op,ty,pos,after,none⟩ n F hs m v) (k:SR P ops Q n eff t hs s ((d,v)::F) hp m) (he:eff.contains i=false:=by exact rfl) (hn:Nat.ble (d+1) n.num=true:=by exact rfl) :
    SR P ops Q n eff t hs (.op i s) F hp m:=c5m ho he p (leB hn) k
theorem yf {args:List Operand} {tys:Array TypeId} {vs:List Value} {q:FuncId} (ho:ops[i]?=some ⟨some d,.call ⟨.value (.func q),args.toArray,tys⟩,ty,pos,after,none⟩) (ea:Evs n F args vs) (c:∀ fr,CT P q vs (fr++(hp++hs)) m (A7 (fr++(hp++hs)) v)) (k:SR P ops Q n eff t hs s ((d,v)::F) hp m)
    (he:eff.contains i=true:=by exact rfl) (hn:Nat.ble (d+1) n.num=true:=by exact rfl) :
    SR P ops Q n eff t hs (.op i s) F hp m:=b9r (first:=[]) (cap:=[]) ho he Ev.func ea (fun fr=>by simpa using c fr) (leB hn) k
end
section
variable {P:Program} {ops:Array Oper} {Q:Exit→Act→World→Prop} {n:Cx} {F:Fm} {h h':List Res} {m:View} {rest:List Oper}
def Pk (P:Program) (c:Code) (Q:Exit→Act→World→Prop) (n:Cx) (F:Fm) (h:List Res) (m:View) (G:Prop):Prop:=G→WC P c Q n F h m
theorem pkS {x y:Code} {G:(Act→World→Prop)→Prop} (p:∀ K:Act→World→Prop,Pk P x (Exit.then K Q) n F h m (G K)) :
    Pk P (.seq x y) Q n F h m (∀ K:Act→World→Prop,(∀ ds F h m,WC P y Q { n with ds:=ds } F h m→∀ a w,Fr { n with ds:=ds } F a→St m h w→K a w)→G K):=fun g=>sk fun K hK=>p K (g K hK)
theorem pkB {id:Nat} {c:Code} {G:Prop} (p:Pk P c (Exit.inBlock id Q) n F h m G):Pk P (.block id c) Q n F h m G:=fun g=>bk (p g)
theorem pkR {id:Nat} {l:List Oper} {G:List (Option Nat)} (hG:a8p l=some G:=by exact rfl):Pk P (.region id l.toArray false) Q n F h m (∀ ops:Array Oper,WL P ops Q n l F h m):=fun g=>rn g hG
theorem pkG {id:Nat} {l:List Oper} {G:List (Option Nat)} (hG:a8p l=some G:=by exact rfl):Pk P (.region id l.toArray false) Q n F h m (∀ ops:Array Oper,(∀ j t,G[j]?=some (some t)→a1z ops j=some t)→WL P ops Q n l F h m):=fun g=>rg g hG
theorem pkE {c:Code}:Pk P c Q n F h m (WC P c Q n F h m):=id
theorem gD {c:Code} {G:Prop} (k:G) (p:Pk P c Q n F h m G:=by (repeat first | (apply pkS;intro _) | apply pkB);first | exact pkR | exact pkE):WC P c Q n F h m:=p k
theorem gE {c:Code} {G:Prop} (k:G) (p:Pk P c Q n F h m G:=by (repeat first | (apply pkS;intro _) | apply pkB);exact pkE):WC P c Q n F h m:=p k
theorem gG {c:Code} {G:Prop} (k:G) (p:Pk P c Q n F h m G:=by (repeat first | (apply pkS;intro _) | apply pkB);exact pkG):WC P c Q n F h m:=p k
theorem Su {F F':Fm} (q:Sub F F':=by (repeat (first | exact Sub.nil | refine Sub.cons rfl ?_ | refine Sub.consE rfl (by simp;done) ?_))):Sub F F':=q
theorem dS {id:Nat} {l:List Oper} (eff:List Nat) (s:Tr) (t:List Nat) (hm:P.follows .mixedOrders=true) {hs:List Res} (k:SR P l.toArray Q n eff ⟨t,[]⟩ hs s F [] m) (hQ:∀ c a w d v,Q (.panic c) (a.put (some d) v) w→Q (.panic c) a w:=by exact fun _ _ _ _ _ h=>h) (ok:(!eff.contains 4096&&a2w l.toArray eff s [] t [])=true:=by kernel_rfl) :
    WC P (.region id l.toArray true) Q n F ([]++hs) m:=G1 eff s t hs [] hm hQ [] ok k
theorem Lb {a b:Nat} (h:Nat.ble a b=true:=by exact rfl):a≤b:=leB h
section
variable {op:BinOp} {kk:IntKind} {i j:Int} {v:Value} {t t':TypeId} {pos:String} {after:Array Edge} {ty:TypeId} {d x y:Nat}
theorem bB (k:WL P ops Q n rest ((d,v)::F) h m) (e1:look F x=some (.int kk i):=by exact rfl) (hv:iop op kk i j=some v:=by exact rfl) (hn:Nat.ble (d+1) n.num=true:=by exact rfl) :
    WL P ops Q n (⟨some d,.binOp op t (.tmp x) (.const (.int kk j)) t',ty,pos,after,none⟩::rest) F h m:=xG (O6 (Ev.tmp e1) Ev.const hv) k hn
theorem bD (k:WL P ops Q n rest ((d,v)::F) h m) (e1:look F x=some (.int kk i):=by exact rfl) (e2:look F y=some (.int kk j):=by exact rfl) (hv:iop op kk i j=some v:=by exact rfl) (hn:Nat.ble (d+1) n.num=true:=by exact rfl) :
    WL P ops Q n (⟨some d,.binOp op t (.tmp x) (.tmp y) t',ty,pos,after,none⟩::rest) F h m:=xG (O6 (Ev.tmp e1) (Ev.tmp e2) hv) k hn
theorem bI (k:WL P ops Q n rest ((d,.int .i64 (i+j))::F) h m) (e1:look F x=some (.int .i64 i):=by exact rfl) (h1:-9223372036854775808≤i+j∧i+j≤9223372036854775807:=by omega) (hn:Nat.ble (d+1) n.num=true:=by exact rfl) :
    WL P ops Q n (⟨some d,.binOp .add t (.tmp x) (.const (.int .i64 j)) t',ty,pos,after,none⟩::rest) F h m:=xG (I7 (Ev.tmp e1) Ev.const h1) k hn
end
theorem dF {p:Prop} [Decidable p] (q:decide p=false):¬p:=of_decide_eq_false q
theorem dT {p:Prop} [Decidable p] (q:decide p=true):p:=of_decide_eq_true q
end
section
variable {P:Program} {ops:Array Oper} {Q Q':Exit→Act→World→Prop} {n:Cx} {F F':Fm} {h h':List Res} {m:View} {rest:List Oper} {y:Code} {ts:List Nat} {id:Nat} {W G:Prop}
class Ud (P:Program) (t:TypeId) (u:outParam TypeDesc):Prop where h:P.underlying t=some u
class Es (P:Program) (t:TypeId) (e:outParam TypeId) (sz b:outParam Nat):Prop where h:EL P t e sz b
class Ln {α:Type} (e:α→List Value) (sz:outParam Nat):Prop where
  h:∀ x,(e x).length=sz
  p:0 < sz
theorem UU {t:TypeId} {u:TypeDesc} [i:Ud P t u]:P.underlying t=some u:=i.h
theorem LL {α:Type} {e:α→List Value} {sz:Nat} [i:Ln e sz]:∀ x,(e x).length=sz:=i.h
section
variable {α:Type} {e:α→List Value} {x:Operand} {t:TypeId} {u:TypeDesc} {a:Option Addr} {len cap q sz o:Nat} {l:List α} {z:α} {v:Value} {vs:List Value} {dst:Option Nat} {ty:TypeId} {pos:String} {after:Array Edge} {g:Option (Nat × Bool)}
theorem pX [E:Ln e 1] (ht:P.underlying t=some u) (hp:M9 u=true) (ex:Ev n F x (.pointer (elt a (q * 1)))) (hs:Rd m h a len cap 1 (fl e l)) (hx:l[q]?=some z) (hv:e z=[v]):PO P ⟨dst,.load t x,ty,pos,after,g⟩ n F h m v:=b6k ht hp E.h hs ex hx hv
theorem pY [E:Ln e sz] (ht:P.underlying t=some u) (hp:M9 u=false) (hq:(P.info? t).isSome=true) (ex:Ev n F x (.pointer (elt a (q * sz)))) (hs:Rd m h a len cap sz (fl e l)) (hx:l[q]?=some z) (hv:e z=vs) (hl:P.cellsOf t=vs.length) (h0:0 < vs.length):PO P ⟨dst,.load t x,ty,pos,after,g⟩ n F h m (.agg vs.toArray):=a3W ht hp hq E.h hs ex hx hv hl h0
theorem pZ [E:Ln e sz] (ht:P.underlying t=some u) (hp:M9 u=true) (ex:Ev n F x (.pointer (elt a (q * sz+o)))) (hs:Rd m h a len cap sz (fl e l)) (hx:l[q]?=some z) (hv:(e z)[o]?=some v):PO P ⟨dst,.load t x,ty,pos,after,g⟩ n F h m v:=F8 ht hp E.h hs ex hx hv
end
theorem pE {α:Type} {e:α→List Value} {l:List α} {q:Nat} {z:α} {x:Operand} {t i o len cap sz:Nat} {fs:Array Field} {f:Field} {a:Option Addr} {dst:Option Nat} {ty:TypeId} {pos:String} {after:Array Edge} {g:Option (Nat × Bool)} [E:Ln e sz] (ht:P.underlying t=some (.struct fs)) (hf:fs[i]?=some f) (hz:P.cellsOf f.type≠0) (hs:Rd m h a len cap sz (fl e l)) (hx:l[q]?=some z) (ex:Ev n F x (.pointer (elt a o))) :
  PO P ⟨dst,.fieldAddr t x i,ty,pos,after,g⟩ n F h m (.pointer (elt a (o+f.offset))):=F5 ht hf hz E.h E.p hs hx ex
theorem pI {x i:Operand} {t e:TypeId} {a:Option Addr} {len cap sz q b:Nat} {k:IntKind} {j:Int} {xs:List Value} {dst:Option Nat} {ty:TypeId} {pos:String} {after:Array Edge} {g:Option (Nat × Bool)} [E:Es P t e sz b] (ex:Ev n F x (.slice a len cap)) (ei:Ev n F i (.int k j)) (hs:Rd m h a len cap sz xs) (hj:j=(q:Int)) (hq:q < len) :
  PO P ⟨dst,.indexAddr t x i,ty,pos,after,g⟩ n F h m (.pointer (elt a (q * sz))):=F4 E.h.und E.h.size E.h.posz ex ei hs hj hq
structure Tg (ts:List Nat):Prop
theorem sq {x:Code} (k:WC P x (Exit.then (KK P y Q n.ro) Q) n F h m):WC P (.seq x y) Q n F h m:=WC.seq k
theorem rq {l:List Oper} (k:WL P l.toArray Q n l F h m) (hG:l.all a0a=true:=by exact rfl):WC P (.region id l.toArray false) Q n F h m:=.mk fun a w ha hs=>a9u (by simpa using hG) (k.e a w ha hs)
theorem wnT (_:Tg ts) (k:WC P y Q n F' h m) (hq:Q' .normal=KK P y Q n.ro:=by exact rfl) (hk:a3w F ts=some F':=by exact rfl):WL P ops Q' n [] F h m:=WL.nil (hq ▸ b2l hk k.e)
theorem skT (_:Tg ts) (k:WC P y Q n F' h m) (hq:Q' .normal=KK P y Q n.ro:=by exact rfl) (hk:a3w F ts=some F':=by exact rfl):WC P .skip Q' n F h m:=WC.skip (hq ▸ b2l hk k.e)
theorem exT (_:Tg ts) (k:WC P y Q n F' h m) (hq:Q' (.exit id)=KK P y Q n.ro:=by exact rfl) (hk:a3w F ts=some F':=by exact rfl):WC P (.exit id) Q' n F h m:=WC.exit (hq ▸ b2l hk k.e)
structure Hd (G:Prop):Prop where g:G
theorem j0 (k:G) (p:Hd G→W:=by intro g;(repeat first | refine sq ?_ | refine bk ?_);first | exact rq g.g | exact g.g):W:=p ⟨k⟩
theorem jS (k:G) (p:Hd G→W:=by intro g;(repeat refine sq ?_);exact g.g):W:=p ⟨k⟩
theorem jE (k:G) (p:Hd G→W:=by intro g;(repeat first | refine sq ?_ | refine bk ?_);exact g.g):W:=p ⟨k⟩
theorem cb {f:FuncId} {args:List Value} {R:Value→View→List Res→Prop} {fn:Func} {c:Code} {F0:Fm} {N:Nat} (k:WC P c (bodyPost P fn (RQ m R)) ⟨N,none,[]⟩ F0 h m) (he:∀ as w,(callFunc f as).run P w=.ok (.enter f as) w:=by exact fun _ _=>rfl) (hf:P.funcs[f]?=some fn:=by exact rfl) (hb:fn.body=some c:=by exact rfl) (hN:fn.ntmps=N:=by exact rfl) (hl:Nat.ble args.length N=true:=by exact rfl) (hF:a4B 0 args=some F0:=by exact rfl):CT P f args h m R:=CT.body he hf hb hN (leB hl) hF k
theorem Eb {ps:List (Nat × Operand)} {vs:List (Nat × Value)} (h:EvP n F ps vs:=by (repeat (apply EvP.cons;first | exact Ev.const | exact Et));exact EvP.nil):EvP n F ps vs:=h
theorem jw (k:G) (p:Hd G→W:=by intro g;(first | (show WL _ _ _ _ (⟨_,.move _,_,_,_,none⟩::_) _ _ _;first | refine xM ?_ | refine xK ?_) | (show WL _ _ _ _ (⟨_,.assign _,_,_,_,none⟩::_) _ _ _;first | refine xA ?_ | refine xC ?_) | (show WL _ _ _ _ (⟨_,.fieldAddr _ _ _,_,_,_,none⟩::_) _ _ _;first | refine xF UU ?_ | refine xG (pE UU rfl (Nat.ne_of_beq_eq_false rfl) Rr (by assumption) (Ev.tmp rfl)) ?_) | (show WL _ _ _ _ (⟨_,.load _ _,_,_,_,none⟩::_) _ _ _;first | refine xG (pL UU) ?_ | refine xG (pA UU) ?_ | refine xG (pZ UU rfl (by exact Ev.tmp rfl) Rr (by assumption) (by exact rfl)) ?_ | refine xG (pX UU rfl (by exact Ev.tmp rfl) Rr (by assumption) (by exact rfl)) ?_ | refine xG (pY UU rfl rfl (by exact Ev.tmp rfl) Rr (by assumption) (by exact rfl) (by exact rfl) (by exact Nat.succ_pos _)) ?_) | (show WL _ _ _ _ (⟨_,.store _ _ _,_,_,_,none⟩::_) _ _ _;refine xS ?_) | (show WL _ _ _ _ (⟨_,.binOp _ _ _ _ _,_,_,_,none⟩::_) _ _ _;first | refine bI ?_ | refine bB ?_ | refine bD ?_) | (show WL _ _ _ _ (⟨_,.pick _ _ _,_,_,_,none⟩::_) _ _ _;first | refine xP ?_ | refine xQ ?_) | (show WL _ _ _ _ (⟨_,.extract _ _,_,_,_,none⟩::_) _ _ _;refine xE ?_) | (show WL _ _ _ _ (⟨_,.call _,_,_,_,none⟩::_) _ _ _;refine xG (U5 UU Et) ?_) | (show WL _ _ _ _ (⟨_,.unOp _ _ _,_,_,_,none⟩::_) _ _ _;refine xG (PO.not Et) ?_) | (show WL _ _ _ _ (⟨_,.build _ _,_,_,_,none⟩::_) _ _ _;refine xG (PO.build UU rfl rfl rfl Eb (by exact rfl)) ?_) | (show WL _ _ _ _ (⟨_,.indexAddr _ _ _,_,_,_,none⟩::_) _ _ _;refine xG (pI (Ev.tmp rfl) (Ev.tmp rfl) Rr rfl (by omega)) ?_) | (show WL _ _ _ _ (⟨_,.nilCheck _,_,_,_,none⟩::_) _ _ _;refine xG (PO.nilCheck Et) ?_));exact g.g):W:=p ⟨k⟩
theorem jg (k:G) (p:Hd G→W:=by intro g;(first | (show WL _ _ _ _ (⟨_,.move _,_,_,_,some _⟩::_) _ _ _;first | refine zV ?_ | refine zM ?_) | (show WL _ _ _ _ (⟨_,.fieldAddr _ _ _,_,_,_,some _⟩::_) _ _ _;first | refine zG (fun _=>pF UU) ?_ | refine zG (fun hc=>PO.fieldAddr UU rfl (Nat.ne_of_beq_eq_false rfl) (Eg hc)) ?_) | (show WL _ _ _ _ (⟨_,.load _ _,_,_,_,some _⟩::_) _ _ _;first | refine zG (fun hc=>D4 UU rfl (Eg hc) Me rfl) ?_ | refine zG (fun hc=>M0 UU rfl rfl (Eg hc) Me rfl) ?_) | (show WL _ _ _ _ (⟨_,.call _,_,_,_,some _⟩::_) _ _ _;refine zG (fun hc=>U5 UU (Eg hc)) ?_) | (show WL _ _ _ _ (⟨_,.binOp _ _ _ _ _,_,_,_,some _⟩::_) _ _ _;first | refine zG (fun hc=>O6 (Eg hc) Ev.const rfl) ?_ | refine zG (fun hc=>O6 (Eg hc) (Eg hc) rfl) ?_) | (show WL _ _ _ _ (⟨_,.unOp _ _ _,_,_,_,some _⟩::_) _ _ _;refine zG (fun hc=>PO.not (Eg hc)) ?_));exact g.g):W:=p ⟨k⟩
theorem yY {eff:List Nat} {t:Tl} {hs hp:List Res} {i:Nat} {s:Tr} {o:Oper} (k:ops[i]?=some o→SR P ops Q n eff t hs (.op i s) F hp m) (ho:ops[i]?=some o:=by exact rfl):SR P ops Q n eff t hs (.op i s) F hp m:=k ho
theorem jy (k:G) (p:Hd G→W:=by intro g;(first | (show(_:Option Oper)=some ⟨_,.move _,_,_,_,none⟩→_;refine fun e=>yG e (PO.move Et) ?_) | (show(_:Option Oper)=some ⟨_,.fieldAddr _ _ _,_,_,_,none⟩→_;first | refine fun e=>yG e (pF UU) ?_ | refine fun e=>yG e (pE UU rfl (Nat.ne_of_beq_eq_false rfl) Rr (by assumption) (Ev.tmp rfl)) ?_) | (show(_:Option Oper)=some ⟨_,.load _ _,_,_,_,none⟩→_;first | refine fun e=>yG e (pL UU) ?_ | refine fun e=>yG e (pA UU) ?_ | refine fun e=>yG e (pZ UU rfl (by exact Ev.tmp rfl) Rr (by assumption) (by exact rfl)) ?_ | refine fun e=>yG e (pX UU rfl (by exact Ev.tmp rfl) Rr (by assumption) (by exact rfl)) ?_ | refine fun e=>yG e (pY UU rfl rfl (by exact Ev.tmp rfl) Rr (by assumption) (by exact rfl) (by exact rfl) (by exact Nat.succ_pos _)) ?_) | (show(_:Option Oper)=some ⟨_,.pick _ _ _,_,_,_,none⟩→_;refine fun e=>yG e (a4J rfl rfl) ?_) | (show(_:Option Oper)=some ⟨_,.indexAddr _ _ _,_,_,_,none⟩→_;refine fun e=>yG e (pI (Ev.tmp rfl) (Ev.tmp rfl) Rr rfl (by omega)) ?_) | (show(_:Option Oper)=some ⟨_,.nilCheck _,_,_,_,none⟩→_;refine fun e=>yG e (PO.nilCheck Et) ?_));exact g.g):W:=p ⟨k⟩
theorem jz (k:G) (p:Hd G→W:=by intro g;(first | (show(_:Option Oper)=some ⟨_,.fieldAddr _ _ _,_,_,_,some _⟩→_;refine fun e=>B9 e rfl (GU.t rfl rfl) (fun hc=>PO.fieldAddr UU rfl (Nat.ne_of_beq_eq_false rfl) Et) Lb ?_) | (show(_:Option Oper)=some ⟨_,.load _ _,_,_,_,some _⟩→_;first | refine fun e=>B9 e rfl (GU.t rfl rfl) (fun hc=>D4 UU rfl (Eg hc) Me rfl) Lb ?_ | refine fun e=>B9 e rfl (GU.t rfl rfl) (fun hc=>M0 UU rfl rfl (Eg hc) Me rfl) Lb ?_));exact g.g):W:=p ⟨k⟩
theorem j1 (k:G) (p:Hd G→W:=by intro g;first | (show WL _ _ _ _ (⟨_,_,_,_,_,none⟩::_) _ _ _;exact jw g.g) | (show WL _ _ _ _ (⟨_,_,_,_,_,some _⟩::_) _ _ _;exact jg g.g) | (refine yY ?_;first | (show(_:Option Oper)=some ⟨_,_,_,_,_,none⟩→_;exact jy g.g) | (show(_:Option Oper)=some ⟨_,_,_,_,_,some _⟩→_;exact jz g.g))):W:=p ⟨k⟩
theorem kQ0 (ts:List Nat) (k:G) (p:Tg ts→Hd G→W:=by
  intro t g;refine j0 ?_
  first | refine wnT t ?_ | refine skT t ?_ | refine exT t ?_
  exact j0 g.g):W:=p ⟨⟩ ⟨k⟩
theorem kP0 (ts:List Nat) (k:G) (p:Tg ts→Hd G→W:=by
  intro t g;refine j0 ?_
  first | refine wnT t ?_ | refine skT t ?_ | refine exT t ?_
  exact jS g.g):W:=p ⟨⟩ ⟨k⟩
theorem kA1 (k:G) (p:Hd G→W:=by
  intro g;refine j0 ?_
  refine j1 ?_
  exact g.g):W:=p ⟨k⟩
theorem kQ1 (ts:List Nat) (k:G) (p:Tg ts→Hd G→W:=by
  intro t g;refine j0 ?_
  refine j1 ?_
  first | refine wnT t ?_ | refine skT t ?_ | refine exT t ?_
  exact j0 g.g):W:=p ⟨⟩ ⟨k⟩
theorem kP1 (ts:List Nat) (k:G) (p:Tg ts→Hd G→W:=by
  intro t g;refine j0 ?_
  refine j1 ?_
  first | refine wnT t ?_ | refine skT t ?_ | refine exT t ?_
  exact jS g.g):W:=p ⟨⟩ ⟨k⟩
theorem kA2 (k:G) (p:Hd G→W:=by
  intro g;refine j0 ?_
  iterate 2 refine j1 ?_
  exact g.g):W:=p ⟨k⟩
theorem kQ2 (ts:List Nat) (k:G) (p:Tg ts→Hd G→W:=by
  intro t g;refine j0 ?_
  iterate 2 refine j1 ?_
  first | refine wnT t ?_ | refine skT t ?_ | refine exT t ?_
  exact j0 g.g):W:=p ⟨⟩ ⟨k⟩
theorem kP2 (ts:List Nat) (k:G) (p:Tg ts→Hd G→W:=by
  intro t g;refine j0 ?_
  iterate 2 refine j1 ?_
  first | refine wnT t ?_ | refine skT t ?_ | refine exT t ?_
  exact jS g.g):W:=p ⟨⟩ ⟨k⟩
theorem kA3 (k:G) (p:Hd G→W:=by
  intro g;refine j0 ?_
  iterate 3 refine j1 ?_
  exact g.g):W:=p ⟨k⟩
theorem kQ3 (ts:List Nat) (k:G) (p:Tg ts→Hd G→W:=by
  intro t g;refine j0 ?_
  iterate 3 refine j1 ?_
  first | refine wnT t ?_ | refine skT t ?_ | refine exT t ?_
  exact j0 g.g):W:=p ⟨⟩ ⟨k⟩
theorem kP3 (ts:List Nat) (k:G) (p:Tg ts→Hd G→W:=by
  intro t g;refine j0 ?_
  iterate 3 refine j1 ?_
  first | refine wnT t ?_ | refine skT t ?_ | refine exT t ?_
  exact jS g.g):W:=p ⟨⟩ ⟨k⟩
theorem kA4 (k:G) (p:Hd G→W:=by
  intro g;refine j0 ?_
  iterate 4 refine j1 ?_
  exact g.g):W:=p ⟨k⟩
theorem kQ4 (ts:List Nat) (k:G) (p:Tg ts→Hd G→W:=by
  intro t g;refine j0 ?_
  iterate 4 refine j1 ?_
  first | refine wnT t ?_ | refine skT t ?_ | refine exT t ?_
  exact j0 g.g):W:=p ⟨⟩ ⟨k⟩
theorem kP4 (ts:List Nat) (k:G) (p:Tg ts→Hd G→W:=by
  intro t g;refine j0 ?_
  iterate 4 refine j1 ?_
  first | refine wnT t ?_ | refine skT t ?_ | refine exT t ?_
  exact jS g.g):W:=p ⟨⟩ ⟨k⟩
theorem kA5 (k:G) (p:Hd G→W:=by
  intro g;refine j0 ?_
  iterate 5 refine j1 ?_
  exact g.g):W:=p ⟨k⟩
theorem kQ5 (ts:List Nat) (k:G) (p:Tg ts→Hd G→W:=by
  intro t g;refine j0 ?_
  iterate 5 refine j1 ?_
  first | refine wnT t ?_ | refine skT t ?_ | refine exT t ?_
  exact j0 g.g):W:=p ⟨⟩ ⟨k⟩
theorem kP5 (ts:List Nat) (k:G) (p:Tg ts→Hd G→W:=by
  intro t g;refine j0 ?_
  iterate 5 refine j1 ?_
  first | refine wnT t ?_ | refine skT t ?_ | refine exT t ?_
  exact jS g.g):W:=p ⟨⟩ ⟨k⟩
theorem kA6 (k:G) (p:Hd G→W:=by
  intro g;refine j0 ?_
  iterate 6 refine j1 ?_
  exact g.g):W:=p ⟨k⟩
theorem kQ6 (ts:List Nat) (k:G) (p:Tg ts→Hd G→W:=by
  intro t g;refine j0 ?_
  iterate 6 refine j1 ?_
  first | refine wnT t ?_ | refine skT t ?_ | refine exT t ?_
  exact j0 g.g):W:=p ⟨⟩ ⟨k⟩
theorem kP6 (ts:List Nat) (k:G) (p:Tg ts→Hd G→W:=by
  intro t g;refine j0 ?_
  iterate 6 refine j1 ?_
  first | refine wnT t ?_ | refine skT t ?_ | refine exT t ?_
  exact jS g.g):W:=p ⟨⟩ ⟨k⟩
theorem kA7 (k:G) (p:Hd G→W:=by
  intro g;refine j0 ?_
  iterate 7 refine j1 ?_
  exact g.g):W:=p ⟨k⟩
theorem kQ7 (ts:List Nat) (k:G) (p:Tg ts→Hd G→W:=by
  intro t g;refine j0 ?_
  iterate 7 refine j1 ?_
  first | refine wnT t ?_ | refine skT t ?_ | refine exT t ?_
  exact j0 g.g):W:=p ⟨⟩ ⟨k⟩
theorem kP7 (ts:List Nat) (k:G) (p:Tg ts→Hd G→W:=by
  intro t g;refine j0 ?_
  iterate 7 refine j1 ?_
  first | refine wnT t ?_ | refine skT t ?_ | refine exT t ?_
  exact jS g.g):W:=p ⟨⟩ ⟨k⟩
theorem kA8 (k:G) (p:Hd G→W:=by
  intro g;refine j0 ?_
  iterate 8 refine j1 ?_
  exact g.g):W:=p ⟨k⟩
theorem kQ8 (ts:List Nat) (k:G) (p:Tg ts→Hd G→W:=by
  intro t g;refine j0 ?_
  iterate 8 refine j1 ?_
  first | refine wnT t ?_ | refine skT t ?_ | refine exT t ?_
  exact j0 g.g):W:=p ⟨⟩ ⟨k⟩
theorem kP8 (ts:List Nat) (k:G) (p:Tg ts→Hd G→W:=by
  intro t g;refine j0 ?_
  iterate 8 refine j1 ?_
  first | refine wnT t ?_ | refine skT t ?_ | refine exT t ?_
  exact jS g.g):W:=p ⟨⟩ ⟨k⟩
theorem kA9 (k:G) (p:Hd G→W:=by
  intro g;refine j0 ?_
  iterate 9 refine j1 ?_
  exact g.g):W:=p ⟨k⟩
theorem kQ9 (ts:List Nat) (k:G) (p:Tg ts→Hd G→W:=by
  intro t g;refine j0 ?_
  iterate 9 refine j1 ?_
  first | refine wnT t ?_ | refine skT t ?_ | refine exT t ?_
  exact j0 g.g):W:=p ⟨⟩ ⟨k⟩
theorem kP9 (ts:List Nat) (k:G) (p:Tg ts→Hd G→W:=by
  intro t g;refine j0 ?_
  iterate 9 refine j1 ?_
  first | refine wnT t ?_ | refine skT t ?_ | refine exT t ?_
  exact jS g.g):W:=p ⟨⟩ ⟨k⟩
theorem a9i (k:G) (p:Hd G→W:=by
  intro g;refine j0 ?_
  iterate 10 refine j1 ?_
  exact g.g):W:=p ⟨k⟩
theorem c1H (ts:List Nat) (k:G) (p:Tg ts→Hd G→W:=by
  intro t g;refine j0 ?_
  iterate 10 refine j1 ?_
  first | refine wnT t ?_ | refine skT t ?_ | refine exT t ?_
  exact j0 g.g):W:=p ⟨⟩ ⟨k⟩
theorem c6D (ts:List Nat) (k:G) (p:Tg ts→Hd G→W:=by
  intro t g;refine j0 ?_
  iterate 10 refine j1 ?_
  first | refine wnT t ?_ | refine skT t ?_ | refine exT t ?_
  exact jS g.g):W:=p ⟨⟩ ⟨k⟩
theorem c6f (k:G) (p:Hd G→W:=by
  intro g;refine j0 ?_
  iterate 11 refine j1 ?_
  exact g.g):W:=p ⟨k⟩
theorem c2a (ts:List Nat) (k:G) (p:Tg ts→Hd G→W:=by
  intro t g;refine j0 ?_
  iterate 11 refine j1 ?_
  first | refine wnT t ?_ | refine skT t ?_ | refine exT t ?_
  exact j0 g.g):W:=p ⟨⟩ ⟨k⟩
theorem c6B (ts:List Nat) (k:G) (p:Tg ts→Hd G→W:=by
  intro t g;refine j0 ?_
  iterate 11 refine j1 ?_
  first | refine wnT t ?_ | refine skT t ?_ | refine exT t ?_
  exact jS g.g):W:=p ⟨⟩ ⟨k⟩
theorem a7F (k:G) (p:Hd G→W:=by
  intro g;refine j0 ?_
  iterate 12 refine j1 ?_
  exact g.g):W:=p ⟨k⟩
theorem c6A (ts:List Nat) (k:G) (p:Tg ts→Hd G→W:=by
  intro t g;refine j0 ?_
  iterate 12 refine j1 ?_
  first | refine wnT t ?_ | refine skT t ?_ | refine exT t ?_
  exact j0 g.g):W:=p ⟨⟩ ⟨k⟩
theorem c6E (ts:List Nat) (k:G) (p:Tg ts→Hd G→W:=by
  intro t g;refine j0 ?_
  iterate 12 refine j1 ?_
  first | refine wnT t ?_ | refine skT t ?_ | refine exT t ?_
  exact jS g.g):W:=p ⟨⟩ ⟨k⟩
end
end Go.Eng
end
section
namespace Go.Lx
abbrev B:=List UInt8
def ltr (z:Int):Bool:=(decide (z ≥ 97)&&decide (z≤122))||(decide (z ≥ 65)&&decide (z≤90))
def c1E (z:Int):Bool:=(decide (z ≥ 65)&&decide (z≤90))||(decide (z ≥ 97)&&decide (z≤122))
def dig (z:Int):Bool:=decide (z ≥ 48)&&decide (z≤57)
def wch (c:UInt8):Bool:=!(!ltr c.toNat&&!dig c.toNat&&((c.toNat:Int) != 46))
def b8L (z:Int):Bool:=c1E z||dig z||(z==46)
def run:B→Nat
 | []=>0
 | c::l=>if wch c then run l+1 else 0
theorem a4M:∀ l,run l≤l.length
 | []=>Nat.le_refl _
 | c::l=>by
   unfold run
   have:=a4M l
   split <;> simp <;> omega
theorem b9x {l:B} {k:Nat} {c:UInt8} (hc:l[k]?=some c):run (l.drop k)=if wch c then run (l.drop (k+1))+1 else 0:=by
 have h1:k < l.length:=(List.getElem?_eq_some_iff.1 hc).1
 rw[List.drop_eq_getElem_cons h1,(List.getElem?_eq_some_iff.1 hc).2]
 rfl
def a5t:B:=[32,65,70,84,69,82,32,65,76,84,32,65,78,68,32,66,79,79,76,32,66,89,84,69,32,67,65,83,69,32,67,72,65,78,32,69,76,83,69,32,70,65,76,83,69,32,70,79,82,32,73,70,32,73,78,84,32,73,83,32,77,73,78,85,83,32,78,79,84,32,79,70,32,79,82,32,80,65,82,32,80,76,65,67,69,68,32,80,76,85,83,32,80,82,73,32,80,82,79,67,32,80,82,79,67,69,83,83,79,82,32,80,82,79,84,79,67,79,76,32,83,69,81,32,83,73,90,69,32,83,75,73,80,32,83,84,79,80,32,84,73,77,69,82,32,84,73,77,69,83,32,84,82,85,69,32,86,65,76,32,87,72,73,76,69,32]
def key (s:B):Bool:=!(s==[])&&((run s:Int)==s.length)&&Lib.contains a5t ([32]++s++[32])
def name (s:B):Bool:=!(s==[])&&decide ((s.length:Int)≤32)&&(match s with | c::_=>ltr c.toNat | []=>false)&&((run s:Int)==s.length)&&!key s
def b4V:List B:=[[65,70,84,69,82],[65,76,84],[65,78,68],[66,79,79,76],[66,89,84,69],[67,65,83,69],[67,72,65,78],[69,76,83,69],[70,65,76,83,69],[70,79,82],[73,70],[73,78,84],[73,83],[77,73,78,85,83],[78,79,84],[79,70],[79,82],[80,65,82],[80,76,65,67,69,68],[80,76,85,83],[80,82,73],[80,82,79,67],[80,82,79,67,69,83,83,79,82],[80,82,79,84,79,67,79,76],[83,69,81],[83,73,90,69],[83,75,73,80],[83,84,79,80],[84,73,77,69,82],[84,73,77,69,83],[84,82,85,69],[86,65,76],[87,72,73,76,69]]
def a6L (s:B):List B→Bool
 | []=>false
 | x::l=>if x==s then true else a6L s l
theorem a1k (s:B):∀ l,a6L s l=true↔s ∈ l
 | []=>by simp[a6L]
 | x::l=>by
   unfold a6L
   split
   · rename_i h;simp at h;simp[h]
   · rename_i h
     have h':¬ s=x:=fun e=>h (by simp[e])
     rw[a1k s l];simp[h']
def c4u (s:B):Bool:=a6L s b4V
def b6J:B→Bool
 | []=>true
 | c::l=>if b8L c.toNat then b6J l else false
def bad (s:B):Bool:=decide ((s.length:Int) < 1)||decide ((s.length:Int) > 32)||(match s with | c::_=>!c1E c.toNat | []=>false)||c4u s
def c4L (s:B):Bool:=if bad s then false else b6J s
def encB (s:B):List Value:=[Eng.str s]
theorem D1 (s:B):(encB s).length=1:=rfl
set_option linter.defProp false in
@[reducible,instance]def iencB_len:=Go.Eng.Ln.mk D1 (by decide)
end Go.Lx
end
section
namespace Go.Xp
open Go.Eng
abbrev B:=List UInt8
inductive Ex where
 | mk (k o t n:Int) (s:B) (a:Option Addr) (c:Nat) (l:List Ex)
namespace Ex
def k:Ex→Int | mk k _ _ _ _ _ _ _=>k
def o:Ex→Int | mk _ o _ _ _ _ _ _=>o
def t:Ex→Int | mk _ _ t _ _ _ _ _=>t
def n:Ex→Int | mk _ _ _ n _ _ _ _=>n
def s:Ex→B | mk _ _ _ _ s _ _ _=>s
def a:Ex→Option Addr | mk _ _ _ _ _ a _ _=>a
def c:Ex→Nat | mk _ _ _ _ _ _ c _=>c
def l:Ex→List Ex | mk _ _ _ _ _ _ _ l=>l
end Ex
def exE (e:Ex):List Value:=[.int .u8 e.k,.int .u8 e.o,.int .u8 e.t,.int .i32 e.n,str e.s,.slice e.a e.l.length e.c]
theorem a4c (e:Ex):(exE e).length=6:=rfl
set_option linter.defProp false in
@[reducible,instance]def iexE_len:=Go.Eng.Ln.mk a4c (by decide)
def exV (e:Ex):Value:=.agg (exE e).toArray
inductive TOk (m:View) (h:List Res):Ex→Prop
 | mk {k o t n:Int} {s:B} {a:Option Addr} {c:Nat} {l:List Ex} (hr:Rd m h a l.length c 6 (fl exE l)) (hc:∀ x ∈ l,TOk m h x):TOk m h (.mk k o t n s a c l)
theorem TOk.rd {m:View} {h:List Res} {e:Ex} (q:TOk m h e):Rd m h e.a e.l.length e.c 6 (fl exE e.l):=by cases q;assumption
theorem TOk.part {m:View} {h:List Res} {e x:Ex} (q:TOk m h e) (hx:x ∈ e.l):TOk m h x:=by cases q with | mk hr hc=>exact hc x hx
theorem TOk.mono {m:View} {h h':List Res} {e:Ex} (q:TOk m h e) (hh:h.Sublist h'):TOk m h' e:=by
 induction q with
 | mk hr _ ih=>exact .mk (hr.mono (View.le.refl m) hh) ih
inductive Wf:Ex→Prop
 | mk {k o t n:Int} {s:B} {a:Option Addr} {c:Nat} {l:List Ex} (hk:0≤k∧k≤255) (ho:0≤o∧o≤255) (ht:0≤t∧t≤255) (hn:-2147483648≤n∧n≤2147483647) (hs:s.length≤140737488355328) (hc:∀ x ∈ l,Wf x):Wf (.mk k o t n s a c l)
theorem Wf.spec {e:Ex} (q:Wf e):((0≤e.k∧e.k≤255)∧(0≤e.o∧e.o≤255)∧(0≤e.t∧e.t≤255))∧((-2147483648≤e.n∧e.n≤2147483647)∧e.s.length≤140737488355328):=by
 cases q with | mk hk ho ht hn hs hc=>exact⟨⟨hk,ho,ht⟩,hn,hs⟩
theorem Wf.part {e x:Ex} (q:Wf e) (hx:x ∈ e.l):Wf x:=by cases q with | mk hk ho ht hn hs hc=>exact hc x hx
theorem Ex.ind {p:Ex→Prop} (h:∀ e:Ex,(∀ x ∈ e.l,p x)→p e) (e:Ex):p e:=
 Ex.rec (motive_1:=p) (motive_2:=fun l=>∀ x ∈ l,p x) (fun k o t n s a c l ih=>h (.mk k o t n s a c l) ih) (fun _ hx=>by cases hx)
   (fun y r hy hr x hx=>by
     rcases List.mem_cons.1 hx with rfl | hx
     · exact hy
     · exact hr x hx) e
mutual
def a4V:Ex→Nat
 | .mk _ _ _ _ _ _ _ l=>1+a3e l
def a3e:List Ex→Nat
 | []=>0
 | x::r=>a4V x+a3e r
end
theorem X4 (e:Ex):a4V e=1+a3e e.l:=by cases e;rfl
mutual
def c4t:Ex→List B
 | .mk k _ _ _ s _ _ l=>(if (k==4||k==5)||k==9 then [s] else [])++b7C l
def b7C:List Ex→List B
 | []=>[]
 | x::r=>c4t x++b7C r
end
theorem a2h {α:Type} {l:List α} {k:Nat} {c:α} (hc:l[k]?=some c):l.take (k+1)=l.take k++[c]:=by rw[List.take_add_one,hc];rfl
def a8Y (x y:Ex):Bool:=((((((x.k != y.k)||(x.o != y.o))||(x.t != y.t))||(x.n != y.n))||(x.s != y.s))||((x.l.length:Int) != y.l.length))
mutual
def F2:Ex→Ex→Bool
 | .mk k o t n s a c l,y=>!a8Y (.mk k o t n s a c l) y&&a0z l y.l
def a0z:List Ex→List Ex→Bool
 | [],_=>true
 | _::_,[]=>true
 | x::r,y::q=>F2 x y&&a0z r q
end
theorem a8F (x y:Ex):F2 x y=(!a8Y x y&&a0z x.l y.l):=by cases x;rfl
theorem b1T {l q:List Ex} {k:Nat} {x y:Ex} (hx:l[k]?=some x) (hy:q[k]?=some y):a0z (l.drop k) (q.drop k)=(F2 x y&&a0z (l.drop (k+1)) (q.drop (k+1))):=by
 rw[show l.drop k=x::l.drop (k+1) by
     have h1:k < l.length:=(List.getElem?_eq_some_iff.1 hx).1
     rw[List.drop_eq_getElem_cons h1,(List.getElem?_eq_some_iff.1 hx).2],
   show q.drop k=y::q.drop (k+1) by
     have h1:k < q.length:=(List.getElem?_eq_some_iff.1 hy).1
     rw[List.drop_eq_getElem_cons h1,(List.getElem?_eq_some_iff.1 hy).2]]
 rfl
def fin (o t n:Int) (s:B):Bool:=(((o==0)&&(t==0))&&(n==0))&&(s==[])
def L2 (k:Int):B:=if k=1 then [73,78,84] else if k=2 then [66,89,84,69] else if k=3 then [66,79,79,76] else []
def D7 (e:Ex):Int × Bool:=
 if e.k=1 then (0,fin e.o e.t 0 e.s)
 else if e.k=2 then (if a5R .i32 e.n 8≠0 then (0,false) else (0,fin e.o e.t 0 e.s))
 else if e.k=3 then (if a5R .i32 e.n 1≠0 then (0,false) else (0,fin e.o e.t 0 e.s))
 else if e.k=4 then (if !Go.Lx.name e.s then (0,false) else (0,fin e.o e.t e.n []))
 else if e.k=9 then (if !Go.Lx.name e.s then (0,false) else (0,fin e.o e.t e.n []))
 else if e.k=5 then (if !Go.Lx.name e.s then (0,false) else (1,fin e.o e.t e.n []))
 else if e.k=6 then (if decide (e.o < 23)||decide (IntKind.u8.wrap (e.o - 23) ≥ 4) then (0,false) else (1,fin 0 e.t e.n e.s))
 else if e.k=7 then (if decide (e.o < 1)||decide (e.o > 22) then (0,false) else (2,fin 0 e.t e.n e.s))
 else if e.k=8 then (if L2 e.t==[] then (0,false) else (1,fin e.o 0 e.n e.s))
 else (0,false)
def a5s (deep left:Int) (e:Ex):Bool:=(((!(D7 e).2||decide (left - 1 < 0))||decide (deep > 32))||((e.l.length:Int) != (D7 e).1))
mutual
def P2 (deep left:Int):Ex→Option Int
 | .mk k o t n s a c l=>if a5s deep left (.mk k o t n s a c l) then none else a0f (deep+1) (left - 1) l
def a0f (deep left:Int):List Ex→Option Int
 | []=>some left
 | x::r=>match P2 deep left x with
   | some q=>a0f deep q r
   | none=>none
end
theorem a2B (deep left:Int) (e:Ex):P2 deep left e=if a5s deep left e then none else a0f (deep+1) (left - 1) e.l:=by cases e;rfl
theorem b6S {l:List Ex} {k:Nat} {x:Ex} (hx:l[k]?=some x) (deep left:Int):a0f deep left (l.drop k)=(P2 deep left x).bind fun q=>a0f deep q (l.drop (k+1)):=by
 have h1:k < l.length:=(List.getElem?_eq_some_iff.1 hx).1
 rw[List.drop_eq_getElem_cons h1,(List.getElem?_eq_some_iff.1 hx).2]
 show(match P2 deep left x with | some q=>a0f deep q (l.drop (k+1)) | none=>none)=_
 cases P2 deep left x <;> rfl
theorem b0T {deep left:Int} {e:Ex} (h:a5s deep left e=false):((D7 e).2=true∧0≤left - 1)∧deep≤32∧(e.l.length:Int)=(D7 e).1:=by
 unfold a5s at h
 simp only[Bool.or_eq_false_iff,Bool.not_eq_false',decide_eq_false_iff_not,bne_eq_false_iff_eq] at h
 obtain⟨⟨⟨h1,h2⟩,h3⟩,h4⟩:=h
 exact⟨⟨h1,by omega⟩,by omega,h4⟩
theorem a9y (e:Ex):∀ (deep left q:Int),0≤left→P2 deep left e=some q→0≤q∧q≤left - 1:=by
 refine Ex.ind (p:=fun e=>∀ (deep left q:Int),0≤left→P2 deep left e=some q→0≤q∧q≤left - 1) (fun e ih deep left q hl hq=>?_) e
 rw[a2B] at hq
 split at hq
 · cases hq
 · rename_i hh
   have hb:=b0T (by simpa using hh)
   have key:∀ (l:List Ex),(∀ x ∈ l,x ∈ e.l)→∀ z,0≤z→a0f (deep+1) z l=some q→0≤q∧q≤z:=by
     intro l
     induction l with
     | nil=>intro _ z hz h;cases h;omega
     | cons x r ihr=>
       intro hm z hz h
       unfold a0f at h
       split at h
       · rename_i p hp
         have h1:=ih x (hm x (by simp)) _ _ _ hz hp
         have h2:=ihr (fun y hy=>hm y (by simp[hy])) p h1.1 h
         omega
       · cases h
   exact key e.l (fun _ h=>h) (left - 1) (by omega) hq
def M4 (e:Ex):Bool:=(P2 1 256 e).isSome
def a4P:List B:=[[],[43],[45],[42],[47],[92],[80,76,85,83],[77,73,78,85,83],[84,73,77,69,83],[47,92],[92,47],[62,60],[60,60],[62,62],[61],[60,62],[60],[62],[60,61],[62,61],[65,78,68],[79,82],[65,70,84,69,82],[45],[77,73,78,85,83],[126],[78,79,84]]
def a1q (o:Int):B × Bool:=if o==0||decide (o ≥ 27) then ([],false) else (a4P.getD o.toNat [],true)
theorem R8 {α:Type} {l:List α} {k:Nat} {c:α} (hc:l[k]?=some c):l.drop k=c::l.drop (k+1):=by
 have h1:k < l.length:=(List.getElem?_eq_some_iff.1 hc).1
 rw[List.drop_eq_getElem_cons h1,(List.getElem?_eq_some_iff.1 hc).2]
end Go.Xp
end
section
namespace Go.Lx
theorem c4k (z:Int):ltr z=c1E z:=by unfold ltr c1E;rw[Bool.or_comm]
theorem c3i (c:UInt8):wch c=b8L c.toNat:=by
 unfold wch b8L
 rw[← c4k,bne]
 cases ltr c.toNat <;> cases dig c.toNat <;> simp
theorem b4F:∀ s:B,((run s:Int)==s.length)=b6J s
 | []=>rfl
 | c::l=>by
   have ih:=b4F l
   unfold run b6J
   rw[c3i]
   cases b8L c.toNat
   · simp;omega
   · rw[← ih]
     simp only[if_pos,List.length_cons]
     rw[Bool.eq_iff_iff]
     simp
theorem b5O:b8L ((32:UInt8).toNat)=false:=by decide
theorem b5g:∀ {s:B},b6J s=true→∀ c ∈ s,c≠32
 | [],_,c,hc=>by cases hc
 | x::l,h,c,hc=>by
   unfold b6J at h
   split at h
   · rename_i hw
     rcases List.mem_cons.1 hc with rfl | hc
     · rintro rfl
       rw[b5O] at hw
       cases hw
     · exact b5g h c hc
   · cases h
theorem b05:∀ {s r:B},(∀ c ∈ s,c≠32)→(s++32::r).takeWhile (· != 32)=s
 | [],_,_=>rfl
 | x::s,r,hs=>by
   have hx:(x != 32)=true:=by simpa using hs x (by simp)
   rw[List.cons_append,List.takeWhile_cons,hx,if_pos rfl,b05 fun c hc=>hs c (List.mem_cons_of_mem _ hc)]
theorem b3B:∀ i,i < 200→(match (a5t.drop i).takeWhile (· != 32) with | []=>true | w=>a6L w b4V)=true∨a5t[i - 1]?≠some 32:=by decide +kernel
theorem c2u:∀ s ∈ b4V,key s=true:=by decide +kernel
theorem c3Z (s:B):key s=c4u s:=by
 rw[Bool.eq_iff_iff]
 constructor
 · intro h
   unfold key at h
   rw[Bool.and_eq_true,Bool.and_eq_true,b4F] at h
   obtain⟨⟨h0,h1⟩,h2⟩:=h
   have hns:=b5g h1
   unfold Lib.contains at h2
   have h2:=of_decide_eq_true h2
   rcases Lib.index_spec a5t ([32]++s++[32]) with ⟨e,_⟩ | ⟨i,_,hi,ho,_⟩
   · omega
   · unfold Lib.occAt at ho
     obtain⟨r,hr⟩:=List.isPrefixOf_iff_prefix.1 ho
     have h3:(a5t.drop i)[0]?=some 32:=by rw[← hr];rfl
     have h4:a5t.drop (i+1)=s++32::r:=by
       rw[← List.tail_drop,← hr]
       simp
     rw[List.getElem?_drop] at h3
     have hlt:i < a5t.length:=(List.getElem?_eq_some_iff.1 h3).1
     have hl:a5t.length≤198:=by decide +kernel
     rcases b3B (i+1) (by omega) with h5 | h5
     · rw[h4,b05 hns] at h5
       unfold c4u
       cases s with
       | nil=>simp at h0
       | cons c s=>exact h5
     · exact absurd h3 h5
 · intro h
   exact c2u s ((a1k s _).1 h)
end Go.Lx
end
section
namespace Go.Ty
open Go.Lx
structure Ty where
 kind:Int
 dim:Int
 item:Int
 proto:B
def zeroT:Ty:=⟨0,0,0,[]⟩
def J2 (t:Ty):List Value:=[.int .u8 t.kind,.int .i64 t.dim,.int .u8 t.item,Eng.str t.proto]
def tyV (t:Ty):Value:=.agg (J2 t).toArray
def eqT (t u:Ty):Bool:=(t.kind==u.kind)&&((t.dim==u.dim)&&((t.item==u.item)&&((t.proto==u.proto)&&true)))
theorem eqT_iff (t u:Ty):eqT t u=true↔t=u:=by
 cases t;cases u;simp[eqT]
structure Tok where
 kind:Int
 at_:Int
 text:B
 n:Int
def zeroK:Tok:=⟨0,0,[],0⟩
def B4 (t:Tok):List Value:=[.int .u8 t.kind,.int .i64 t.at_,Eng.str t.text,.int .i32 t.n]
theorem B7 (t:Tok):(B4 t).length=4:=rfl
set_option linter.defProp false in
@[reducible,instance]def iencK_len:=Go.Eng.Ln.mk B7 (by decide)
def S1 (t:Tok):Value:=.agg (B4 t).toArray
def eqK (t u:Tok):Bool:=(t.kind==u.kind)&&((t.at_==u.at_)&&((t.text==u.text)&&((t.n==u.n)&&true)))
theorem eqK_iff (t u:Tok):eqK t u=true↔t=u:=by
 cases t;cases u;simp[eqK]
structure Pm where
 kind:Int
 word:B
 size:Int
def b9s (p:Pm):List Value:=[.int .u8 p.kind,Eng.str p.word,.int .i64 p.size]
def c1C:B:=[73,78,84]
def b4A:B:=[66,89,84,69]
def b5x:B:=[66,79,79,76]
def prims:List Pm:=[⟨1,c1C,4⟩,⟨2,b4A,1⟩,⟨3,b5x,1⟩]
def wordIn (k:Int):List Pm→B × Int × Bool
 | []=>([],0,false)
 | p::l=>if p.kind==k then (p.word,p.size,true) else wordIn k l
theorem b2s (k:Int) {l:List Pm} {i:Nat} {p:Pm} (hp:l[i]?=some p):wordIn k (l.drop i)=if p.kind==k then (p.word,p.size,true) else wordIn k (l.drop (i+1)):=by
 have h1:i < l.length:=(List.getElem?_eq_some_iff.1 hp).1
 rw[List.drop_eq_getElem_cons h1,(List.getElem?_eq_some_iff.1 hp).2]
 rfl
def wordS (k:Int):B × Int × Bool:=wordIn k prims
def is (k:Int):Bool:=(wordS k).2.2
def prim (k:Int):Bool:=(k==1)||(k==2)||(k==3)
theorem c5b (k:Int):is k=prim k:=by
 unfold is wordS prims wordIn wordIn wordIn wordIn prim
 rw[show((1:Int)==k)=(k==1) from Bool.beq_comm,show((2:Int)==k)=(k==2) from Bool.beq_comm,show((3:Int)==k)=(k==3) from Bool.beq_comm]
 cases k==1 <;> cases k==2 <;> cases k==3 <;> rfl
def far (t:Ty):Bool:=decide (t.dim < 0)||decide (t.dim > 64)
def timer:Ty:=⟨5,0,0,[]⟩
def may (t:Ty):Bool:=
 if far t then false
 else if is t.kind then (t.item==0)&&(t.proto==[])
 else if t.kind != 4 then eqT t timer
 else if t.item==0 then name t.proto
 else is t.item&&(t.proto==[])
def b8A (t:Ty):Bool:=
 if far t then false
 else if prim t.kind then (t.item==0)&&(t.proto==[])
 else if t.kind==4 then (prim t.item&&(t.proto==[]))||((t.item==0)&&c4L t.proto)
 else eqT t timer
structure Vr where
 tag:B
 a:Option Addr
 n:Nat
 c:Nat
 items:List Int
def M5 (k:Int):List Value:=[.int .u8 k]
theorem D6 (k:Int):(M5 k).length=1:=rfl
set_option linter.defProp false in
@[reducible,instance]def iencI_len:=Go.Eng.Ln.mk D6 (by decide)
def encV (v:Vr):List Value:=[Eng.str v.tag,.slice v.a v.n v.c]
theorem E5 (v:Vr):(encV v).length=2:=rfl
set_option linter.defProp false in
@[reducible,instance]def iencV_len:=Go.Eng.Ln.mk E5 (by decide)
structure VOk (m:Eng.View) (h:List Eng.Res) (v:Vr):Prop where
 rd:Eng.Rd m h v.a v.n v.c 1 (Eng.fl M5 v.items)
theorem VOk.mono {m m':Eng.View} {h h':List Eng.Res} {v:Vr} (o:VOk m h v) (hm:m.le m') (hh:h.Sublist h'):VOk m' h' v:=⟨o.rd.mono hm hh⟩
def prL (cs:Bool) (a:Option Addr) (k c:Nat):List Value:=[.bool cs,.slice a k c]
def prV (cs:Bool) (a:Option Addr) (k c:Nat):Value:=.agg (prL cs a k c).toArray
structure PrOk (m:Eng.View) (h:List Eng.Res) (a:Option Addr) (k c:Nat) (l:List Vr):Prop where
 rd:Eng.Rd m h a k c 2 (Eng.fl encV l)
 ok:∀ v,v ∈ l→VOk m h v
 tag:∀ v,v ∈ l→v.tag.length≤9223372036854775807
theorem PrOk.mono {m m':Eng.View} {h h':List Eng.Res} {a:Option Addr} {k c:Nat} {l:List Vr} (o:PrOk m h a k c l) (hm:m.le m') (hh:h.Sublist h'):PrOk m' h' a k c l:=
 ⟨o.rd.mono hm hh,fun v hv=>(o.ok v hv).mono hm hh,o.tag⟩
def idxF {α:Type} (q:α→Bool):List α→Int→Int
 | [],_=>-1
 | x::l,k=>if q x then k else idxF q l (k+1)
theorem idxF_drop {α:Type} (q:α→Bool) {l:List α} {i:Nat} {x:α} (hx:l[i]?=some x) (k:Int):idxF q (l.drop i) k=if q x then k else idxF q (l.drop (i+1)) (k+1):=by
 have h1:i < l.length:=(List.getElem?_eq_some_iff.1 hx).1
 rw[List.drop_eq_getElem_cons h1,(List.getElem?_eq_some_iff.1 hx).2]
 rfl
theorem idxF_any {α:Type} (q:α→Bool):∀ (l:List α) (k:Int),0≤k→decide (idxF q l k ≥ 0)=l.any q
 | [],_,_=>rfl
 | x::l,k,hk=>by
   unfold idxF
   rw[List.any_cons]
   cases h:q x
   · rw[Bool.false_or,← idxF_any q l (k+1) (by omega)];rfl
   · simp only[if_true,Bool.true_or];exact decide_eq_true hk
def a7u (l:List Int) (least:Int):Bool:=decide ((l.length:Int) ≥ least)&&decide ((l.length:Int)≤8)&&!(l.any fun k=>!is k)
def tagIn (tag:B) (l:List Vr):Bool:=l.any fun w=>w.tag==tag
def badV (pre:List Vr) (v:Vr):Bool:=!name v.tag||!a7u v.items 0||tagIn v.tag pre
def mayIn (pre:List Vr):List Vr→Bool
 | []=>true
 | v::r=>if badV pre v then false else mayIn (pre++[v]) r
theorem b45 {l:List Vr} {i:Nat} {v:Vr} (hv:l[i]?=some v):mayIn (l.take i) (l.drop i)=if badV (l.take i) v then false else mayIn (l.take (i+1)) (l.drop (i+1)):=by
 have h1:i < l.length:=(List.getElem?_eq_some_iff.1 hv).1
 rw[Eng.take_snoc hv,List.drop_eq_getElem_cons h1,(List.getElem?_eq_some_iff.1 hv).2]
 rfl
def c5q:Vr:=⟨[],none,0,0,[]⟩
def hdV (l:List Vr):Vr:=l.headD c5q
theorem b4R {l:List Vr} (h:((l.length:Int)==1)=true):l[0]?=some (hdV l):=by
 cases l with
 | nil=>simp at h
 | cons v l=>rfl
def mayPr (cs:Bool) (l:List Vr):Bool:=
 if !cs then ((l.length:Int)==1)&&((hdV l).tag==[])&&a7u (hdV l).items 1
 else if decide ((l.length:Int) < 1)||decide ((l.length:Int) > 16) then false
 else mayIn [] l
theorem a6F:∀ {l pre:List Vr},mayIn pre l=true→∀ v,v ∈ l→v.items.length≤8
 | [],_,_,v,hv=>by cases hv
 | w::r,pre,h,v,hv=>by
   unfold mayIn at h
   cases hb:badV pre w with
   | true=>rw[hb] at h;cases h
   | false=>
     rw[hb] at h
     rcases List.mem_cons.1 hv with rfl | hv
     · unfold badV a7u at hb
       simp at hb
       omega
     · exact a6F h v hv
theorem mayPr_items {cs:Bool} {l:List Vr} (h:mayPr cs l=true):∀ v,v ∈ l→v.items.length≤8:=by
 unfold mayPr at h
 cases cs with
 | false=>
   simp only[Bool.not_false,if_true,Bool.and_eq_true] at h
   intro v hv
   have h1:=b4R h.1.1
   match l,h.1.1,hv with
   | [w],_,hv=>
     have:v=w:=by simpa using hv
     subst this
     have h2:=h.2
     unfold a7u hdV at h2
     simp at h2
     omega
 | true=>
   simp only[Bool.not_true,Bool.false_eq_true,if_false] at h
   split at h
   · cases h
   · exact a6F h
def eqI (x y:Int):Bool:=x==y
theorem b0y (x y:Int):eqI x y=true↔x=y:=by simp[eqI]
theorem a2l {x y:Int} (h:(x != y)=true):eqI x y=false:=by simpa [eqI] using h
theorem a2p {x y:Int} (h:(x != y)=false):eqI x y=true:=by simpa [eqI] using h
end Go.Ty
end
section
namespace Go.Lx
open Go.Ty
def b2y:B:=[43,45,42,47,92,61,60,62,126,63,33,38,58,59,44,40,41,91,93]
def a3y:B:=[32,47,92,32,92,47,32,62,60,32,60,60,32,62,62,32,60,62,32,60,61,32,62,61,32,58,61,32]
def O4:B:=[48,49,50,51,52,53,54,55,56,57,65,66,67,68,69,70]
def a5x:B:=[99,110,116,115,39,34,42]
def a1A:B:=[13,10,9,32,39,34,42]
def sym:B→Bool
 | [a]=>Lib.contains b2y [a]
 | [a,b]=>((a.toNat:Int) != 32)&&((b.toNat:Int) != 32)&&Lib.contains a3y ([32]++[a,b]++[32])
 | _=>false
def K1 (t:Tok):Bool:=
 if decide (t.at_ < 0)||decide (t.at_ ≥ 256) then false
 else if t.kind==1 then (t.n==0)&&name t.text
 else if t.kind==2 then (t.n==0)&&key t.text
 else if t.kind==5 then (t.n==0)&&sym t.text
 else if t.kind==4 then (t.text==[])&&decide (t.n ≥ 0)&&decide (t.n < 256)
 else (t.kind==3)&&(t.text==[])
def a2M (r:B):Tok × Nat:=
 if key (r.take (run r)) then (⟨2,0,r.take (run r),0⟩,run r) else if decide ((run r:Int) > 32) then (zeroK,0) else (⟨1,0,r.take (run r),0⟩,run r)
def a9b:B→Int→Option Int
 | [],v=>some v
 | c::l,v=>if !dig c.toNat then none else a9b l (10 * v+((c.toNat:Int) - 48))
def a98 (r:B):Tok × Nat:=
 if decide ((run r:Int) > 10) then (zeroK,0) else
 match a9b (r.take (run r)) 0 with
 | none=>(zeroK,0)
 | some v=>if v != IntKind.i32.wrap v then (zeroK,0) else (⟨3,0,[],IntKind.i32.wrap v⟩,run r)
def a4L (c:UInt8):Int:=Lib.indexByte O4 c
def b2d:B→Int→Option Int
 | [],v=>some v
 | c::l,v=>if decide (a4L c < 0) then none else b2d l (16 * v+a4L c)
def a0m (s:B):Int × Bool:=
 match b2d s 0 with
 | none=>(0,false)
 | some v=>(v,!(s==[]))
def b0I (r:B):Tok × Nat:=
 if decide ((run (r.drop 1):Int) > 8) then (zeroK,0) else
 if !(a0m ((r.drop 1).take (run (r.drop 1)))).2 then (zeroK,0) else
 (⟨3,0,[],IntKind.i32.wrap (a0m ((r.drop 1).take (run (r.drop 1)))).1⟩,1+run (r.drop 1))
def chB (s:B) (i:Nat):Int:=((s.getD i 0).toNat:Int)
def esc (c:UInt8):Int:=Lib.indexByte a5x c
def L0 (s:B):Int × Nat:=
 if (s==[])||decide (chB s 0 < 32)||decide (chB s 0 > 126)||(chB s 0==39) then (0,0)
 else if chB s 0 != 42 then (chB s 0,1)
 else if decide ((s.length:Int) < 2) then (0,0)
 else if decide (esc (s.getD 1 0) ≥ 0) then (chB a1A (esc (s.getD 1 0)).toNat,2)
 else if (chB s 1 != 35)||decide ((s.length:Int) < 4) then (0,0)
 else if !(a0m ((s.drop 2).take 2)).2 then (0,0)
 else ((a0m ((s.drop 2).take 2)).1,4)
def noQ (s:B) (n:Nat):Bool:=((n:Int)==0)||((n:Int)==s.length)||(chB s n != 39)
def a06 (r:B):Tok × Nat:=
 if noQ (r.drop 1) (L0 (r.drop 1)).2 then (zeroK,0) else (⟨4,0,[],(L0 (r.drop 1)).1⟩,(L0 (r.drop 1)).2+2)
def a6E (r:B):Tok × Nat:=
 if decide (2≤r.length)&&sym (r.take 2) then (⟨5,0,r.take 2,0⟩,2)
 else if decide (1≤r.length)&&sym (r.take 1) then (⟨5,0,r.take 1,0⟩,1)
 else (zeroK,0)
def tok (r:B):Tok × Nat:=
 if ltr (chB r 0) then a2M r else if dig (chB r 0) then a98 r else if chB r 0==35 then b0I r else if chB r 0==39 then a06 r else a6E r
def a6O:Nat→B→Nat→Except Nat (List Tok)
 | _,[],_=>.ok []
 | 0,_::_,_=>.ok []
 | k+1,c::r,at_=>
   if (c.toNat:Int)==32 then a6O k r (at_+1)
   else if (tok (c::r)).2==0 then .error at_
   else match a6O k ((c::r).drop (tok (c::r)).2) (at_+(tok (c::r)).2) with
     | .ok l=>.ok ({ (tok (c::r)).1 with at_:=at_ }::l)
     | .error e=>.error e
def lexO (s:B):List Tok × Int × Int:=
 if decide ((s.length:Int) > 256) then ([],0,3)
 else match a6O s.length s 0 with
   | .ok l=>(l,0,0)
   | .error a=>([],a,80)
end Go.Lx
end
section
namespace Go.Lx
open Go.Ty
set_option maxRecDepth 100000
theorem Z5 {p:UInt8→Bool} (h:∀ n,n < 256→p (UInt8.ofNat n)=true) (c:UInt8):p c=true:=by
 have:=h c.toNat c.toNat_lt
 rwa [UInt8.ofNat_toNat] at this
def b2Y:List B:=[[43],[45],[42],[47],[92],[47,92],[92,47],[62,60],[60,60],[62,62],[61],[60,62],[60],[62],[60,61],[62,61],[126],[58,61],[63],[33],[38],[58],[59],[44],[40],[41],[91],[93]]
def c1n (s:B):Bool:=a6L s b2Y
theorem c3u:∀ s ∈ b2Y,sym s=true:=by decide +kernel
theorem c1d:∀ c:UInt8,(sym [c]==c1n [c])=true:=Z5 (by decide +kernel)
theorem b4v:∀ i,i < 28→(match a3y.drop i with | 32::a::b::32::_=>a6L [a,b] b2Y||a==32||b==32 | _=>true)=true:=by decide +kernel
theorem c3P (s:B):sym s=c1n s:=by
 match s with
 | []=>rfl
 | [a]=>simpa using c1d a
 | [a,b]=>
   rw[Bool.eq_iff_iff]
   constructor
   · intro h
     unfold sym at h
     simp only[Bool.and_eq_true] at h
     obtain⟨⟨ha,hb⟩,h2⟩:=h
     unfold Lib.contains at h2
     have h2:=of_decide_eq_true h2
     rcases Lib.index_spec a3y ([32]++[a,b]++[32]) with ⟨e,_⟩ | ⟨i,_,hi,ho,_⟩
     · omega
     · unfold Lib.occAt at ho
       obtain⟨r,hr⟩:=List.isPrefixOf_iff_prefix.1 ho
       have hlt:i < 28:=by
         have hl:a3y.length=28:=rfl
         rcases Nat.lt_or_ge i 28 with h | h
         · exact h
         · rw[List.drop_eq_nil_of_le (by omega)] at hr;simp at hr
       have h5:=b4v i hlt
       rw[← hr] at h5
       simp only[List.cons_append,List.nil_append,Bool.or_eq_true,beq_iff_eq] at h5
       rcases h5 with (h5 | h5) | h5
       · exact h5
       · subst h5;simp at ha
       · subst h5;simp at hb
   · intro h
     exact c3u _ ((a1k _ _).1 h)
 | a::b::c::s=>
   have:c1n (a::b::c::s)=false:=by
     cases h:c1n (a::b::c::s) with
     | false=>rfl
     | true=>
       have:=(a1k _ _).1 h
       simp[b2Y] at this
   rw[this]
   rfl
def b0k (base:Int) (c:UInt8):Int:=
 if (base==16)&&decide ((c.toNat:Int) ≥ 65)&&decide ((c.toNat:Int)≤70) then (c.toNat:Int) - 65+10 else if dig c.toNat then (c.toNat:Int) - 48 else -1
def a6P (base:Int):B→Int→Option Int
 | [],v=>some v
 | c::l,v=>if decide (b0k base c < 0) then none else a6P base l (base * v+b0k base c)
def b8D (s:B) (base most limit:Int):Int × Bool:=
 if decide ((s.length:Int) < 1)||decide ((s.length:Int) > most) then (0,false) else
 match a6P base s 0 with
 | none=>(0,false)
 | some v=>(v,decide (v < limit))
theorem c4d (c:UInt8):b0k 10 c=if dig c.toNat then (c.toNat:Int) - 48 else -1:=rfl
theorem c3S (c:UInt8):a4L c=b0k 16 c:=by simpa using Z5 (p:=fun c=>a4L c==b0k 16 c) (by decide +kernel) c
theorem b8p:∀ (l:B) (v:Int),a9b l v=a6P 10 l v
 | [],v=>rfl
 | c::l,v=>by
   unfold a9b a6P
   rw[c4d,b8p l]
   cases h:dig c.toNat with
   | false=>rfl
   | true=>
     have:decide ((c.toNat:Int) - 48 < 0)=false:=by
       unfold dig at h
       simp at h
       simp
       omega
     simp[this]
theorem a3p:∀ (l:B) (v:Int),b2d l v=a6P 16 l v
 | [],v=>rfl
 | c::l,v=>by
   unfold b2d a6P
   rw[c3S,a3p l]
theorem a4l (c:UInt8):b0k 16 c < 16:=by simpa using Z5 (p:=fun c=>decide (b0k 16 c < 16)) (by decide +kernel) c
theorem a1v {base:Int} (hb:1≤base) (hd:∀ c,b0k base c < base):∀ (l:B) (v r:Int),0≤v→a6P base l v=some r→0≤r∧r < (v+1) * base ^ l.length
 | [],v,r,hv,h=>by cases h;simp;omega
 | c::l,v,r,hv,h=>by
   unfold a6P at h
   split at h
   · cases h
   · rename_i hc
     have hc0:0≤b0k base c:=by simpa using hc
     have hc1:=hd c
     have h0:0≤base * v:=Int.mul_nonneg (by omega) hv
     obtain⟨h1,h2⟩:=a1v hb hd l _ r (by omega) h
     refine⟨h1,Int.lt_of_lt_of_le h2 ?_⟩
     rw[List.length_cons,Int.pow_succ,← Int.mul_assoc,Int.mul_right_comm]
     refine Int.mul_le_mul_of_nonneg_right ?_ (Int.pow_nonneg (by omega))
     rw[Int.add_mul,Int.one_mul,Int.mul_comm v base]
     omega
theorem b8P (s:B) (n:Nat) (hn:s.length≤n) (lim:Int) (hl:16 ^ n≤lim):a0m s=b8D s 16 n lim:=by
 unfold a0m b8D
 rw[a3p]
 cases s with
 | nil=>rfl
 | cons c s=>
   have e:(decide (((c::s).length:Int) < 1)||decide (((c::s).length:Int) > n))=false:=by simp at hn ⊢;omega
   rw[e]
   simp only[Bool.false_eq_true,if_false]
   cases h:a6P 16 (c::s) 0 with
   | none=>rfl
   | some v=>
     have hb:=(a1v (by decide) a4l (c::s) 0 v (by decide) h).2
     have hp:(16:Int) ^ (c::s).length≤16 ^ n:=by exact_mod_cast Nat.pow_le_pow_right (by decide) hn
     simp only[Prod.mk.injEq,true_and]
     rw[show((c::s)==[])=false from rfl]
     symm
     simp
     omega
def a6s:List B:=[[42,99],[42,110],[42,116],[42,115],[42,39],[42,34],[42,42]]
def a4h:List Int:=[13,10,9,32,39,34,42]
def a7t (s:B):List B→List Int→Option Int
 | x::l,v::k=>if s==x then some v else a7t s l k
 | _,_=>none
def X8 (s:B):Int × Bool:=
 if ((s.length:Int)==1)&&decide (chB s 0 ≥ 32)&&decide (chB s 0≤126)&&(s != [39])&&(s != [42]) then (chB s 0,true)
 else match a7t s a6s a4h with
   | some v=>(v,true)
   | none=>if ((s.length:Int)==4)&&(s.take 2==[42,35]) then (IntKind.i32.wrap (b8D (s.drop 2) 16 2 256).1,(b8D (s.drop 2) 16 2 256).2) else (0,false)
def c4T (s:B) (n:Nat):Bool:=(X8 ((s.drop 1).take (n - 2))).2&&(chB s (n - 1)==39)
def a7j (s:B):List Nat→Tok × Nat
 | []=>(zeroK,0)
 | n::ns=>if !decide ((n:Int)≤s.length) then (zeroK,0) else if c4T s n then (⟨4,0,[],(X8 ((s.drop 1).take (n - 2))).1⟩,n) else a7j s ns
def a7d (s:B):Tok × Nat:=a7j s [3,4,5,6]
theorem b2e (a:UInt8):X8 [a]=if (decide ((a.toNat:Int) ≥ 32)&&decide ((a.toNat:Int)≤126)&&(a != 39)&&(a != 42)) then ((a.toNat:Int),true) else (0,false):=by
 have:=Z5 (p:=fun a=>X8 [a]==if (decide ((a.toNat:Int) ≥ 32)&&decide ((a.toNat:Int)≤126)&&(a != 39)&&(a != 42)) then ((a.toNat:Int),true) else (0,false)) (by decide +kernel) a
 simpa using this
theorem b9Q (a b:UInt8):a7t [a,b] a6s a4h=if a==42&&decide (esc b ≥ 0) then some (chB a1A (esc b).toNat) else none:=by
 by_cases h:a=42
 · subst h
   have:=Z5 (p:=fun b=>a7t [42,b] a6s a4h==if decide (esc b ≥ 0) then some (chB a1A (esc b).toNat) else none) (by decide +kernel) b
   simpa using this
 · have h':(a==42)=false:=by simpa using h
   rw[h']
   simp[a7t,a6s,a4h,h]
theorem a0K (a b:UInt8):X8 [a,b]=if a==42&&decide (esc b ≥ 0) then (chB a1A (esc b).toNat,true) else (0,false):=by
 unfold X8
 rw[show(([a,b].length:Int)==1)=false from rfl,show(([a,b].length:Int)==4)=false from rfl,b9Q]
 simp only[Bool.false_and,Bool.false_eq_true,if_false]
 cases (a==42&&decide (esc b ≥ 0)) <;> rfl
theorem a9p (s:B) (h:s.length≠2):a7t s a6s a4h=none:=by
 have:∀ x:B,x.length=2→(s==x)=false:=by
   intro x hx
   cases e:s==x with
   | false=>rfl
   | true=>exact absurd (by rw[eq_of_beq e];exact hx) h
 simp[a7t,a6s,a4h,this]
theorem P6 (a b c:UInt8):X8 [a,b,c]=(0,false):=by
 unfold X8
 rw[a9p _ (by simp)]
 rfl
theorem b3i {v:Int} (h:0≤v∧v < 2147483648):IntKind.i32.wrap v=v:=by
 unfold IntKind.wrap
 simp[IntKind.bits,IntKind.signed]
 omega
theorem a1f (a b c d:UInt8):X8 [a,b,c,d]=if (a==42)&&(b==35) then a0m [c,d] else (0,false):=by
 unfold X8
 rw[a9p _ (by simp)]
 rw[show(([a,b,c,d].length:Int)==1)=false from rfl,show(([a,b,c,d].length:Int)==4)=true from rfl,show List.take 2 [a,b,c,d]=[a,b] from rfl,show List.drop 2 [a,b,c,d]=[c,d] from rfl]
 simp only[Bool.false_and,Bool.false_eq_true,if_false,Bool.true_and]
 rw[show([a,b]==[42,35])=((a==42)&&(b==35)) by rw[Bool.eq_iff_iff];simp]
 cases ((a==42)&&(b==35)) with
 | false=>rfl
 | true=>
   simp only[if_true]
   rw[show b8D [c,d] 16 2 256=a0m [c,d] from (b8P [c,d] 2 (Nat.le_refl _) 256 (by decide)).symm]
   unfold a0m
   rw[a3p]
   cases h:a6P 16 [c,d] 0 with
   | none=>rfl
   | some v=>
     have hb:=a1v (by decide) a4l [c,d] 0 v (by decide) h
     have h2:v < 256:=hb.2
     simp only[b3i ⟨hb.1,by omega⟩]
theorem b9M (a:UInt8) (s:B) (i:Nat):chB (a::s) (i+1)=chB s i:=rfl
theorem a2z (a:UInt8) (s:B):chB (a::s) 0=(a.toNat:Int):=rfl
theorem q39 (s:B) (i:Nat):(chB s i==39)=(s[i]?==some 39):=by
 unfold chB
 rw[List.getD_eq_getElem?_getD]
 cases s[i]? with
 | none=>rfl
 | some b=>
   simp only[Option.getD_some]
   rw[Bool.eq_iff_iff]
   simp
   constructor
   · intro h; exact UInt8.toNat.inj (by have : b.toNat = 39 := by exact_mod_cast h
                                        rw[this];rfl)
   · rintro rfl;rfl
def b2a:Tok × Nat:=(zeroK,0)
theorem b6K (a:UInt8) (t:B) (h:(decide ((a.toNat:Int) < 32)||decide ((a.toNat:Int) > 126)||(a==39))=true):L0 (a::t)=(0,0):=by
 have:((a::t==[])||decide (chB (a::t) 0 < 32)||decide (chB (a::t) 0 > 126)||(chB (a::t) 0==39))=true:=by
   rw[q39,a2z]
   simpa [Bool.or_assoc] using h
 unfold L0
 rw[if_pos this]
theorem a7U (a:UInt8) (t:B) (h:(decide ((a.toNat:Int) < 32)||decide ((a.toNat:Int) > 126)||(a==39))=false):((a::t==[])||decide (chB (a::t) 0 < 32)||decide (chB (a::t) 0 > 126)||(chB (a::t) 0==39))=false:=by
 rw[q39,a2z]
 simpa [Bool.or_assoc] using h
theorem b7u (a:UInt8):((a.toNat:Int) != 42)=(a != 42):=by
 simpa using Z5 (p:=fun a=>((a.toNat:Int) != 42)==(a != 42)) (by decide +kernel) a
theorem b8f (a:UInt8):((a.toNat:Int) != 35)=(a != 35):=by
 simpa using Z5 (p:=fun a=>((a.toNat:Int) != 35)==(a != 35)) (by decide +kernel) a
theorem b2w (a:UInt8) (t:B) (h:(decide ((a.toNat:Int) < 32)||decide ((a.toNat:Int) > 126)||(a==39))=false) (hs:(a != 42)=true):L0 (a::t)=((a.toNat:Int),1):=by
 unfold L0
 rw[if_neg (by rw[a7U a t h];decide),if_pos (by rw[a2z,b7u];exact hs)]
 rfl
theorem a8x (t:B):L0 (42::t)=match t with
   | []=>(0,0)
   | b::u=>if decide (esc b ≥ 0) then (chB a1A (esc b).toNat,2) else if (b != 35)||decide (u.length < 2) then (0,0) else if !(a0m (u.take 2)).2 then (0,0) else ((a0m (u.take 2)).1,4):=by
 unfold L0
 rw[if_neg (by rw[a7U 42 t (by decide)];decide),if_neg (by rw[a2z];decide)]
 cases t with
 | nil=>rfl
 | cons b u=>
   rw[if_neg (by simp;omega)]
   show(if decide (esc b ≥ 0)=true then _ else if ((chB (b::u) 0 != 35)||_)=true then _ else if (!(a0m (u.take 2)).2)=true then _ else _)=_
   rw[a2z,b8f]
   have:decide (((42::b::u).length:Int) < 4)=decide (u.length < 2):=by
     congr 1
     simp
     omega
   rw[this]
   rfl
theorem a2W {q:UInt8} {s:B} {v:Int} {n:Nat} (h:L0 s=(v,n)):a06 (q::s)=if noQ s n then b2a else (⟨4,0,[],v,⟩,n+2):=by
 unfold a06
 rw[show List.drop 1 (q::s)=s from rfl,h]
 rfl
theorem a1t {q:UInt8} {s:B} (h:L0 s=(0,0)):a06 (q::s)=b2a:=by
 rw[a2W h]
 rfl
theorem b3E (s:B) (n:Nat) (hn:n≠0):noQ s n=!(s[n]?==some 39):=by
 unfold noQ
 rw[bne,q39]
 cases h:s[n]?==some 39 with
 | false=>simp
 | true=>
   have h1:n < s.length:=by
     rcases Nat.lt_or_ge n s.length with h2 | h2
     · exact h2
     · rw[List.getElem?_eq_none h2] at h;cases h
   simp
   omega
theorem b3w (q:UInt8) (s:B):a7d (q::s) =
   if !decide (2≤s.length) then b2a else if (X8 (s.take 1)).2&&(s[1]?==some 39) then (⟨4,0,[],(X8 (s.take 1)).1⟩,3) else
   if !decide (3≤s.length) then b2a else if (X8 (s.take 2)).2&&(s[2]?==some 39) then (⟨4,0,[],(X8 (s.take 2)).1⟩,4) else
   if !decide (4≤s.length) then b2a else if (X8 (s.take 3)).2&&(s[3]?==some 39) then (⟨4,0,[],(X8 (s.take 3)).1⟩,5) else
   if !decide (5≤s.length) then b2a else if (X8 (s.take 4)).2&&(s[4]?==some 39) then (⟨4,0,[],(X8 (s.take 4)).1⟩,6) else b2a:=by
 unfold a7d a7j a7j a7j a7j a7j c4T
 simp only[show List.drop 1 (q::s)=s from rfl,show(3 - 2:Nat)=1 from rfl,show(4 - 2:Nat)=2 from rfl,show(5 - 2:Nat)=3 from rfl,show(6 - 2:Nat)=4 from rfl,b9M,q39]
 have e:∀ n:Nat,decide (((n+1:Nat):Int)≤((q::s).length:Int))=decide (n≤s.length):=fun n=>by congr 1;simp
 rw[show((3:Nat):Int)=((2+1:Nat):Int) from rfl,show((4:Nat):Int)=((3+1:Nat):Int) from rfl,show((5:Nat):Int)=((4+1:Nat):Int) from rfl,show((6:Nat):Int)=((5+1:Nat):Int) from rfl,e,e,e,e]
 rfl
theorem b1S (q:UInt8) (s:B):a7d (q::s) =
   if (X8 (s.take 1)).2&&(s[1]?==some 39) then (⟨4,0,[],(X8 (s.take 1)).1⟩,3) else
   if (X8 (s.take 2)).2&&(s[2]?==some 39) then (⟨4,0,[],(X8 (s.take 2)).1⟩,4) else
   if (X8 (s.take 3)).2&&(s[3]?==some 39) then (⟨4,0,[],(X8 (s.take 3)).1⟩,5) else
   if (X8 (s.take 4)).2&&(s[4]?==some 39) then (⟨4,0,[],(X8 (s.take 4)).1⟩,6) else b2a:=by
 rw[b3w]
 match s with
 | []=>simp
 | [a]=>simp
 | [a,b]=>simp
 | [a,b,c]=>simp
 | [a,b,c,d]=>simp
 | a::b::c::d::e::s=>simp
theorem c4E (q:UInt8) (s:B):a7d (q::s)=a06 (q::s):=by
 rw[b1S]
 match s with
 | []=>rfl
 | a::t=>
   cases hb:(decide ((a.toNat:Int) < 32)||decide ((a.toNat:Int) > 126)||(a==39)) with
   | true=>
     have hs:(a==42)=false:=by
       cases hs:a==42 with
       | false=>rfl
       | true=>rw[eq_of_beq hs] at hb;revert hb;decide
     have e1:X8 [a]=(0,false):=by
       rw[b2e]
       have:(decide ((a.toNat:Int) ≥ 32)&&decide ((a.toNat:Int)≤126)&&(a != 39)&&(a != 42))=false:=by
         simp only[Bool.or_eq_true,decide_eq_true_eq] at hb
         rcases hb with (hb | hb) | hb
         · rw[show decide ((a.toNat:Int) ≥ 32)=false by simp;omega];rfl
         · rw[show decide ((a.toNat:Int)≤126)=false by simp;omega,Bool.and_false];rfl
         · rw[bne,hb];simp
       rw[this]
       rfl
     rw[a1t (b6K a t hb)]
     match t with
     | []=>simp[e1]
     | [b]=>simp[e1,a0K,hs]
     | [b,c]=>simp[e1,a0K,P6,hs]
     | b::c::d::t=>simp[e1,a0K,P6,a1f,hs]
   | false=>
     cases hs:a != 42 with
     | true=>
       have hs':(a==42)=false:=by simpa [bne] using hs
       have e1:X8 [a]=((a.toNat:Int),true):=by
         rw[b2e]
         have:(decide ((a.toNat:Int) ≥ 32)&&decide ((a.toNat:Int)≤126)&&(a != 39)&&(a != 42))=true:=by
           simp only[Bool.or_eq_false_iff,decide_eq_false_iff_not] at hb
           rw[hs,bne,hb.2]
           simp
           omega
         rw[this]
         rfl
       rw[a2W (b2w a t hb hs),b3E _ _ (by decide)]
       match t with
       | []=>simp[e1]
       | [b]=>simp[e1,a0K,hs']
       | [b,c]=>simp[e1,a0K,P6,hs']
       | b::c::d::t=>simp[e1,a0K,P6,a1f,hs']
     | false=>
       have e:a=42:=by simpa using hs
       subst e
       have e1:X8 [42]=(0,false):=by decide
       match t with
       | []=>rfl
       | b::u=>
         cases hE:decide (esc b ≥ 0) with
         | true=>
           have hC:L0 (42::b::u)=(chB a1A (esc b).toNat,2):=by rw[a8x];simp only[hE,if_true]
           rw[a2W hC,b3E _ _ (by decide)]
           have h35:(b==35)=false:=by
             cases h:b==35 with
             | false=>rfl
             | true=>rw[eq_of_beq h] at hE;revert hE;decide
           have e2:X8 [42,b]=(chB a1A (esc b).toNat,true):=by rw[a0K,hE];rfl
           match u with
           | []=>simp[e1,e2]
           | [c]=>simp[e1,e2,P6]
           | c::d::u=>simp[e1,e2,P6,a1f,h35]
         | false=>
           have e2:X8 [42,b]=(0,false):=by rw[a0K,hE];rfl
           have hC:L0 (42::b::u)=if (b != 35)||decide (u.length < 2) then (0,0) else if !(a0m (u.take 2)).2 then (0,0) else ((a0m (u.take 2)).1,4):=by
             rw[a8x]
             simp only[hE,Bool.false_eq_true,if_false]
           match u with
           | []=>rw[a1t (hC.trans (by simp))];simp[e1,e2]
           | [c]=>rw[a1t (hC.trans (by simp))];simp[e1,e2,P6]
           | c::d::u=>
             cases h35:b==35 with
             | false=>
               rw[a1t (hC.trans (by simp[bne,h35]))]
               simp[e1,e2,P6,a1f,h35]
             | true=>
               have h35':(b != 35)=false:=by rw[bne,h35];rfl
               cases hx:(a0m [c,d]).2 with
               | false=>
                 rw[a1t (hC.trans (by simp[h35',hx]))]
                 simp[e1,e2,P6,a1f,h35,hx]
               | true=>
                 rw[a2W (v:=(a0m [c,d]).1) (n:=4) (hC.trans (by simp[h35',hx])),b3E _ _ (by decide)]
                 simp[e1,e2,P6,a1f,h35,hx]
theorem b1O:∀ (l:B),run (l.take (run l))=run l
 | []=>rfl
 | c::l=>by
   have e:run (c::l)=if wch c then run l+1 else 0:=rfl
   cases hw:wch c with
   | false=>rw[e,hw];rfl
   | true=>
     rw[e,hw]
     simp only[if_true,List.take_succ_cons]
     show(if wch c then run (l.take (run l))+1 else 0)=_
     rw[hw,b1O l]
     rfl
theorem b0K (l:B):(l.take (run l)).length=run l:=by rw[List.length_take];have:=a4M l;omega
theorem c1X {c:UInt8} (h:ltr c.toNat=true):wch c=true:=by unfold wch;rw[h];rfl
theorem b1A {c:UInt8} {l:B} (h:wch c=true):run (c::l)=1+run l:=by
 show(if wch c then run l+1 else 0)=_
 rw[h,Nat.add_comm]
 rfl
theorem b6m {c:UInt8} {l:B} (h:ltr c.toNat=true) (hk:key ((c::l).take (run (c::l)))=false):name ((c::l).take (run (c::l)))=!decide ((run (c::l):Int) > 32):=by
 have e1:=b1O (c::l)
 have e2:=b0K (c::l)
 have e3:(c::l).take (run (c::l))=c::l.take (run l):=by rw[b1A (c1X h),Nat.add_comm];rfl
 unfold name
 rw[e1,e2,hk,e3]
 simp only[h]
 simp
 rw[← decide_not]
 congr 1
 simp
end Go.Lx
end
section
namespace Go.Xp
open Go.Eng Go
theorem c6t {n:Int} (h:-2147483648≤n∧n≤2147483647):(a5R .i32 n 8=0)↔(0≤n∧n≤255):=by
 unfold a5R
 rw[Int.fdiv_eq_ediv_of_nonneg _ (by decide)]
 simp[IntKind.bits]
 omega
theorem c6z {n:Int} (h:-2147483648≤n∧n≤2147483647):(a5R .i32 n 1=0)↔(0≤n∧n≤1):=by
 unfold a5R
 rw[Int.fdiv_eq_ediv_of_nonneg _ (by decide)]
 simp[IntKind.bits]
 omega
theorem b9O {o:Int} (h:23≤o∧o≤255):IntKind.u8.wrap (o - 23)=o - 23:=by
 unfold IntKind.wrap
 simp[IntKind.bits,IntKind.signed]
 omega
end Go.Xp

namespace Go.Xp
open Go.Eng Go
open Go.Ty (Tok B4)
def C3 (s:B):Tok:=⟨5,0,s,0⟩
def a0O (s:B):Tok:=⟨2,0,s,0⟩
def D9 (s:B):Tok:=⟨1,0,s,0⟩
def a6U (n:Int):Tok:=⟨3,0,[],n⟩
def a2t (n:Int):Tok:=⟨4,0,[],n⟩
def C8 (s:B):Tok:=if Go.Lx.key s then a0O s else C3 s
def J5 (o:Int):Tok:=C8 (a1q o).1
def par (k:Int):Bool:=(((k==6)||(k==7))||(k==8))||(k==9)
def L5 (p:Bool × List Tok):List Tok:=if p.1 then C3 [40]::(p.2++[C3 [41]]) else p.2
def wr (k o t n:Int) (s:B) (ws:List (Bool × List Tok)):List Tok:=
 if k=1 then [a6U n] else if k=2 then [a2t n] else if k=3 then (if n=0 then [C8 [70,65,76,83,69]] else [C8 [84,82,85,69]])
 else if k=4 then [D9 s] else if k=9 then [C8 [83,73,90,69],D9 s] else if k=5 then D9 s::C3 [91]::((ws.getD 0 (false,[])).2++[C3 [93]])
 else if k=6 then J5 o::L5 (ws.getD 0 (false,[])) else if k=8 then C8 (L2 t)::L5 (ws.getD 0 (false,[]))
 else L5 (ws.getD 0 (false,[]))++J5 o::L5 (ws.getD 1 (false,[]))
mutual
def B2:Ex→List Tok
 | .mk k o t n s _ _ l=>wr k o t n s (O7 l)
def O7:List Ex→List (Bool × List Tok)
 | []=>[]
 | x::r=>(par x.k,B2 x)::O7 r
end
def C6 (e:Ex):List Tok:=L5 (par e.k,B2 e)
theorem E9 (e:Ex):B2 e=wr e.k e.o e.t e.n e.s (O7 e.l):=by cases e;rfl
inductive Fine:Ex→Prop
 | mk {e:Ex} (h1:(D7 e).2=true) (h2:(e.l.length:Int)=(D7 e).1) (h3:∀ x ∈ e.l,Fine x):Fine e
theorem Fine.ok {e:Ex} (g:Fine e):(D7 e).2=true:=by cases g;assumption
theorem Fine.num {e:Ex} (g:Fine e):(e.l.length:Int)=(D7 e).1:=by cases g;assumption
theorem Fine.part {e x:Ex} (g:Fine e) (hx:x ∈ e.l):Fine x:=by cases g with | mk h1 h2 h3=>exact h3 x hx
theorem b3H (e:Ex):∀ (deep left q:Int),P2 deep left e=some q→Fine e∧(a4V e:Int)=left - q:=by
 refine Ex.ind (p:=fun e=>∀ (deep left q:Int),P2 deep left e=some q→Fine e∧(a4V e:Int)=left - q) (fun e ih deep left q hq=>?_) e
 rw[a2B] at hq
 split at hq
 · cases hq
 · rename_i hh
   have hb:=b0T (by simpa using hh)
   have key:∀ (l:List Ex),(∀ x ∈ l,x ∈ e.l)→∀ z,a0f (deep+1) z l=some q→(∀ x ∈ l,Fine x)∧(a3e l:Int)=z - q:=by
     intro l
     induction l with
     | nil=>
       intro _ z h
       cases h
       exact⟨fun x hx=>(List.not_mem_nil hx).elim,by simp[a3e]⟩
     | cons x r ihr=>
       intro hm z h
       unfold a0f at h
       split at h
       · rename_i p hp
         have h1:=ih x (hm x (by simp)) _ _ _ hp
         have h2:=ihr (fun y hy=>hm y (by simp[hy])) p h
         refine⟨fun y hy=>?_,by unfold a3e;omega⟩
         rcases List.mem_cons.1 hy with rfl | hy
         · exact h1.1
         · exact h2.1 y hy
       · cases h
   have hk:=key e.l (fun _ h=>h) (left - 1) hq
   have hc:=X4 e
   exact⟨.mk hb.1.1 hb.2.2 hk.1,by omega⟩
theorem a5J {e:Ex} (h:M4 e=true):Fine e∧a4V e≤256:=by
 obtain⟨q,hq⟩:=Option.isSome_iff_exists.1 h
 have h1:=b3H e 1 256 q hq
 have h2:=a9y e 1 256 q (by decide) hq
 exact⟨h1.1,by omega⟩
theorem a1i {e:Ex} (g:Fine e):e.k=1∨e.k=2∨e.k=3∨e.k=4∨e.k=9∨e.k=5∨e.k=6∨e.k=7∨e.k=8:=by
 have h:=g.ok
 unfold D7 at h
 by_cases h1:e.k=1
 · simp[h1]
 by_cases h2:e.k=2
 · simp[h2]
 by_cases h3:e.k=3
 · simp[h3]
 by_cases h4:e.k=4
 · simp[h4]
 by_cases h9:e.k=9
 · simp[h9]
 by_cases h5:e.k=5
 · simp[h5]
 by_cases h6:e.k=6
 · simp[h6]
 by_cases h7:e.k=7
 · simp[h7]
 by_cases h8:e.k=8
 · simp[h8]
 simp[h1,h2,h3,h4,h5,h6,h7,h8,h9] at h
theorem a6o {e:Ex} (hn:-2147483648≤e.n∧e.n≤2147483647) (g:Fine e) (h:e.k=3):e.n=0∨e.n=1:=by
 have h1:=g.ok
 unfold D7 at h1
 simp only[h] at h1
 by_cases hb:a5R .i32 e.n 1=0
 · have:=(c6z hn).1 hb
   omega
 · simp[hb] at h1
theorem Q6 {e:Ex} (g:Fine e) (h:e.k=5∨e.k=6∨e.k=8):∃ x,e.l=[x]:=by
 have h1:=g.ok
 have h2:=g.num
 have:(D7 e).1=1:=by
   unfold D7 at h1 ⊢
   rcases h with h | h | h <;> simp only[h] at h1 ⊢ <;> (revert h1;simp) <;> split <;> simp
 rw[this] at h2
 match hl:e.l with
 | [x]=>exact⟨x,rfl⟩
 | []=>rw[hl] at h2;simp at h2
 | _::_::_=>rw[hl] at h2;simp at h2;omega
theorem a3V {e:Ex} (g:Fine e) (h:e.k=7):∃ x y,e.l=[x,y]:=by
 have h1:=g.ok
 have h2:=g.num
 have:(D7 e).1=2:=by
   unfold D7 at h1 ⊢
   simp only[h] at h1 ⊢
   revert h1
   simp
   split <;> simp
 rw[this] at h2
 match hl:e.l with
 | [x,y]=>exact⟨x,y,rfl⟩
 | []=>rw[hl] at h2;simp at h2
 | [_]=>rw[hl] at h2;simp at h2
 | _::_::_::_=>rw[hl] at h2;simp at h2;omega
theorem a2E (p:Bool × List Tok):(L5 p).length≤p.2.length+2:=by
 unfold L5
 split <;> simp
theorem a4i (e:Ex) (g:Fine e):(B2 e).length≤5 * a4V e - 2:=by
 revert g
 refine Ex.ind (p:=fun e=>Fine e→(B2 e).length≤5 * a4V e - 2) (fun e ih g=>?_) e
 rw[E9]
 have hc:=X4 e
 rcases a1i g with h | h | h | h | h | h | h | h | h
 · simp[wr,h];omega
 · simp[wr,h];omega
 · simp only[wr,h]
   simp
   split <;> simp <;> omega
 · simp[wr,h];omega
 · simp[wr,h];omega
 · obtain⟨x,hx⟩:=Q6 g (.inl h)
   have:=ih x (by simp[hx]) (g.part (by simp[hx]))
   have hcx:=X4 x
   rw[hx] at hc
   simp[a3e] at hc
   simp[wr,h,hx,O7]
   omega
 · obtain⟨x,hx⟩:=Q6 g (.inr (.inl h))
   have:=ih x (by simp[hx]) (g.part (by simp[hx]))
   have h2:=a2E (par x.k,B2 x)
   have hcx:=X4 x
   rw[hx] at hc
   simp[a3e] at hc
   simp[wr,h,hx,O7] at h2 ⊢
   omega
 · obtain⟨x,y,hx⟩:=a3V g h
   have h1:=ih x (by simp[hx]) (g.part (by simp[hx]))
   have h2:=ih y (by simp[hx]) (g.part (by simp[hx]))
   have h3:=a2E (par x.k,B2 x)
   have h4:=a2E (par y.k,B2 y)
   have hcx:=X4 x
   have hcy:=X4 y
   rw[hx] at hc
   simp[a3e] at hc
   simp[wr,h,hx,O7] at h3 h4 ⊢
   omega
 · obtain⟨x,hx⟩:=Q6 g (.inr (.inr h))
   have:=ih x (by simp[hx]) (g.part (by simp[hx]))
   have h2:=a2E (par x.k,B2 x)
   have hcx:=X4 x
   rw[hx] at hc
   simp[a3e] at hc
   simp[wr,h,hx,O7] at h2 ⊢
   omega
end Go.Xp

namespace Go.Xp
open Go.Eng Go
open Go.Ty (Tok B4)
open Go.Lx (K1)
instance:DecidableEq Tok:=fun t u=>decidable_of_iff (Go.Ty.eqK t u=true) (Go.Ty.eqK_iff t u)
def zeroT:Tok:=⟨0,0,[],0⟩
def C9:List Tok→Tok
 | []=>zeroT
 | t::_=>if K1 t then { t with at_:=0 } else zeroT
abbrev a0o:=Except Int (Ex × List Tok)
def sx (k o t n:Int) (s:B) (l:List Ex):Ex:=.mk k o t n s none 0 l
mutual
def C1:Ex→Ex
 | .mk k o t n s _ _ l=>.mk k o t n s none 0 (b0E l)
def b0E:List Ex→List Ex
 | []=>[]
 | x::r=>C1 x::b0E r
end
def opF (t:Tok):Nat→Nat→Nat
 | 0,_=>0
 | n+1,o=>if t=J5 o then o else opF t n (o+1)
def a0j (t:Tok):Nat:=if t=C8 (L2 1) then 1 else if t=C8 (L2 2) then 2 else if t=C8 (L2 3) then 3 else 0
def R1 (ins:B→B→List Tok→a0o) (ts:List Tok):a0o:=
 let t:=C9 ts
 if t.kind=3 then .ok (sx 1 0 0 t.n [] [],ts.tail) else if t.kind=4 then .ok (sx 2 0 0 t.n [] [],ts.tail)
 else if t=C8 [70,65,76,83,69] then .ok (sx 3 0 0 0 [] [],ts.tail) else if t=C8 [84,82,85,69] then .ok (sx 3 0 0 1 [] [],ts.tail)
 else if t.kind=1 then (if C9 ts.tail=C3 [91] then (match ins [91] [93] ts.tail with
     | .ok (x,r)=>.ok (sx 5 0 0 0 t.text [x],r)
     | .error e=>.error e) else .ok (sx 4 0 0 0 t.text [],ts.tail))
 else if t=C3 [40] then ins [40] [41] ts else .error 100
def unQ (mk:Ex→Ex) (p:a0o):a0o:=match p with
 | .ok (x,r)=>.ok (mk x,r)
 | .error e=>.error e
def a0y (ins:B→B→List Tok→a0o) (ts:List Tok):a0o:=
 let t:=C9 ts
 if t=C8 [83,73,90,69] then (if (C9 ts.tail).kind=1 then .ok (sx 9 0 0 0 (C9 ts.tail).text [],ts.tail.tail) else .error 100)
 else if a0j t≠0 then unQ (fun x=>sx 8 0 (a0j t) 0 [] [x]) (R1 ins ts.tail)
 else if opF t 4 23≠0 then unQ (fun x=>sx 6 (opF t 4 23) 0 0 [] [x]) (R1 ins ts.tail)
 else match R1 ins ts with
   | .error e=>.error e
   | .ok (a,r)=>if opF (C9 r) 22 1≠0 then unQ (fun b=>sx 7 (opF (C9 r) 22 1) 0 0 [] [a,b]) (R1 ins r.tail) else .ok (a,r)
def U1:Nat→B→B→List Tok→a0o
 | 0,_,_,_=>.error 3
 | f+1,o,s,ts=>if C9 ts=C3 o then (match a0y (U1 f) ts.tail with
     | .error e=>.error e
     | .ok (x,r)=>if C9 r=C3 s then .ok (x,r.tail) else .error 100) else .error 100
def b0b (ts:List Tok):a0o:=a0y (U1 32) ts
def Q8 (ts:List Tok):Except Int (Ex × Nat):=match b0b ts with
 | .error e=>.error e
 | .ok (x,r)=>if M4 x then .ok (x,ts.length - r.length) else .error 3
theorem a4o (t:Tok) (r:List Tok):C9 (t::r)=if K1 t then { t with at_:=0 } else zeroT:=rfl
theorem b5S {ts:List Tok} (h:(C9 ts).kind≠0):ts≠[]:=by
 rintro rfl
 exact h rfl
theorem b5K (l:List Ex):b0E l=l.map C1:=by
 induction l with
 | nil=>rfl
 | cons x r ih=>rw[b0E,ih];rfl
theorem c1M (e:Ex):(C1 e).k=e.k:=by cases e;rfl
theorem V3 (s:B):(C8 s).kind=2∨(C8 s).kind=5:=by
 unfold C8
 split
 · exact .inl rfl
 · exact .inr rfl
theorem c0X {k:Nat} {l:List Tok} (h:l.drop k≠[]):k < l.length:=by
 rcases Nat.lt_or_ge k l.length with h1 | h1
 · exact h1
 · exact absurd (List.drop_eq_nil_of_le h1) h
theorem a7l {t:Tok}:∀ {n o:Nat},opF t n o≠0→t.kind≠0
 | 0,_,h=>absurd rfl h
 | n+1,o,h=>by
   unfold opF at h
   split at h
   · rename_i q
     rw[q]
     unfold J5
     rcases V3 (a1q o).1 with h | h <;> rw[h] <;> decide
   · exact a7l h
theorem b3t (t:Tok):∀ (n o:Nat),opF t n o≠0→o≤opF t n o∧opF t n o < o+n
 | 0,_,h=>absurd rfl h
 | n+1,o,h=>by
   unfold opF at h ⊢
   split at h
   · rename_i q
     rw[if_pos q]
     omega
   · rename_i q
     rw[if_neg q]
     have:=b3t t n (o+1) h
     omega
end Go.Xp

namespace Go.Xp
open Go.Eng Go
open Go.Ty (Tok B4)
theorem W9 (e:Ex):C1 e=.mk e.k e.o e.t e.n e.s none 0 (e.l.map C1):=by
 cases e with
 | mk k o t n s a c l=>
   rw[C1,b5K]
   rfl
theorem b1z (e:Ex):D7 (C1 e)=D7 e:=by rw[W9];rfl
theorem b6b (e:Ex):(C1 e).l.length=e.l.length:=by rw[W9];exact List.length_map _
theorem b4m (deep left:Int) (e:Ex):a5s deep left (C1 e)=a5s deep left e:=by
 unfold a5s
 rw[b1z,b6b]
theorem b5F (e:Ex):(C1 e).l=e.l.map C1:=by rw[W9];rfl
theorem b1D (e:Ex):∀ (deep left:Int),P2 deep left (C1 e)=P2 deep left e:=by
 refine Ex.ind (p:=fun e=>∀ (deep left:Int),P2 deep left (C1 e)=P2 deep left e) (fun e ih deep left=>?_) e
 rw[a2B,a2B,b4m,b5F]
 have key:∀ (l:List Ex),(∀ x ∈ l,x ∈ e.l)→∀ z,a0f (deep+1) z (l.map C1)=a0f (deep+1) z l:=by
   intro l
   induction l with
   | nil=>intro _ z;rfl
   | cons x r ihr=>
     intro hm z
     rw[List.map_cons]
     unfold a0f
     rw[ih x (hm x (by simp))]
     split
     · exact ihr (fun y hy=>hm y (by simp[hy])) _
     · rfl
 rw[key e.l fun _ h=>h]
theorem Q9 (e:Ex):M4 (C1 e)=M4 e:=by unfold M4;rw[b1D]
theorem b1P (e:Ex):B2 (C1 e)=B2 e:=by
 refine Ex.ind (p:=fun e=>B2 (C1 e)=B2 e) (fun e ih=>?_) e
 rw[E9,E9,b5F,W9]
 have key:∀ (l:List Ex),(∀ x ∈ l,x ∈ e.l)→O7 (l.map C1)=O7 l:=by
   intro l
   induction l with
   | nil=>intro _;rfl
   | cons x r ihr=>
     intro hm
     rw[List.map_cons]
     unfold O7
     rw[ih x (hm x (by simp)),c1M,ihr fun y hy=>hm y (by simp[hy])]
 rw[key e.l fun _ h=>h]
 rfl
theorem Y4 (x:Ex):∀ y:Ex,(F2 x y=true↔C1 x=C1 y):=by
 refine Ex.ind (p:=fun x=>∀ y:Ex,(F2 x y=true↔C1 x=C1 y)) (fun x ih y=>?_) x
 have key:∀ (l q:List Ex),(∀ x' ∈ l,x' ∈ x.l)→l.length=q.length→(a0z l q=true↔l.map C1=q.map C1):=by
   intro l
   induction l with
   | nil=>
     intro q _ hl
     match q with
     | []=>simp[a0z]
     | _::_=>simp at hl
   | cons u r ihr=>
     intro q hm hl
     match q with
     | []=>simp at hl
     | v::w=>
       have h1:=ih u (hm u (by simp)) v
       have h2:=ihr w (fun z hz=>hm z (by simp[hz])) (by simpa using hl)
       unfold a0z
       rw[Bool.and_eq_true,h1,h2,List.map_cons,List.map_cons,List.cons.injEq]
 rw[a8F,W9 x,W9 y]
 constructor
 · intro h
   rw[Bool.and_eq_true] at h
   obtain⟨hb,hl⟩:=h
   unfold a8Y at hb
   simp only[Bool.not_eq_true',Bool.or_eq_false_iff,bne_eq_false_iff_eq] at hb
   obtain⟨⟨⟨⟨⟨h1,h2⟩,h3⟩,h4⟩,h5⟩,h6⟩:=hb
   have h7:=(key x.l y.l (fun _ h=>h) (by omega)).1 hl
   rw[h1,h2,h3,h4,h5,h7]
 · intro h
   injection h with h1 h2 h3 h4 h5 h6 h7 h8
   have h9:x.l.length=y.l.length:=by simpa using congrArg List.length h8
   have h10:=(key x.l y.l (fun _ h=>h) h9).2 h8
   rw[h10]
   unfold a8Y
   rw[h1,h2,h3,h4,h5,h9]
   simp
def A3:Ex:=.mk 0 0 0 0 [] none 0 []
def a8H (ts:List Tok):Ex:=match Q8 ts with
 | .ok (x,_)=>x
 | .error _=>A3
def a04 (ts:List Tok):Nat:=match Q8 ts with
 | .ok (_,k)=>k
 | .error _=>0
def a4I (ts:List Tok):Int:=match Q8 ts with
 | .ok _=>0
 | .error e=>e
def E7 (e:Ex):List Tok:=if M4 e then B2 e else []
def b0H (e:Ex):Int:=if M4 e then 0 else 2
theorem V0 (e:Ex):E7 (C1 e)=E7 e:=by unfold E7;rw[Q9,b1P]
theorem a2Y (s:B):(C8 s).at_=0:=by unfold C8;split <;> rfl
end Go.Xp
end
section
namespace Go.Pc
open Go.Eng Go.Xp Go
open Go.Ty (Ty Vr J2 encV PrOk)
open Go.Lx (encB)
abbrev B:=List UInt8
structure Sli (α:Type) where
 a:Option Addr
 c:Nat
 l:List α
def Sli.v {α:Type} (s:Sli α):Value:=.slice s.a s.l.length s.c
def B5 {α:Type}:Sli α:=⟨none,0,[]⟩
structure Rp where
 name:B
 base:Ex
 count:Ex
structure Fo where
 val:Bool
 ty:Ty
 name:B
mutual
inductive Pr where
 | mk (k:Int) (name:B) (ch:Ex) (tg ex:Sli Ex) (rep:Rp) (ga:Option Addr) (gc:Nat) (gl:List Gu) (la:Option Addr) (lc:Nat) (ll:List Pr) (pn:Sli Int) (sp:Sp)
inductive Gu where
 | mk (k:Int) (name:B) (cond ch:Ex) (tg vl:Sli Ex) (time:Ex) (ba:Option Addr) (bc:Nat) (bl:List Pr)
inductive Sp where
 | mk (k:Int) (ty:Ty) (names:Sli B) (e:Ex) (cs:Bool) (vs:Sli Vr) (fs:Sli Fo) (ba:Option Addr) (bc:Nat) (bl:List Pr)
end
namespace Sp
def k:Sp→Int | mk k _ _ _ _ _ _ _ _ _=>k
def ty:Sp→Ty | mk _ t _ _ _ _ _ _ _ _=>t
def names:Sp→Sli B | mk _ _ n _ _ _ _ _ _ _=>n
def e:Sp→Ex | mk _ _ _ e _ _ _ _ _ _=>e
def cs:Sp→Bool | mk _ _ _ _ c _ _ _ _ _=>c
def vs:Sp→Sli Vr | mk _ _ _ _ _ v _ _ _ _=>v
def fs:Sp→Sli Fo | mk _ _ _ _ _ _ f _ _ _=>f
def ba:Sp→Option Addr | mk _ _ _ _ _ _ _ a _ _=>a
def bc:Sp→Nat | mk _ _ _ _ _ _ _ _ c _=>c
def bl:Sp→List Pr | mk _ _ _ _ _ _ _ _ _ l=>l
end Sp
namespace Gu
def k:Gu→Int | mk k _ _ _ _ _ _ _ _ _=>k
def name:Gu→B | mk _ n _ _ _ _ _ _ _ _=>n
def cond:Gu→Ex | mk _ _ e _ _ _ _ _ _ _=>e
def ch:Gu→Ex | mk _ _ _ e _ _ _ _ _ _=>e
def tg:Gu→Sli Ex | mk _ _ _ _ t _ _ _ _ _=>t
def vl:Gu→Sli Ex | mk _ _ _ _ _ v _ _ _ _=>v
def time:Gu→Ex | mk _ _ _ _ _ _ e _ _ _=>e
def ba:Gu→Option Addr | mk _ _ _ _ _ _ _ a _ _=>a
def bc:Gu→Nat | mk _ _ _ _ _ _ _ _ c _=>c
def bl:Gu→List Pr | mk _ _ _ _ _ _ _ _ _ l=>l
end Gu
namespace Pr
def k:Pr→Int | mk k _ _ _ _ _ _ _ _ _ _ _ _ _=>k
def name:Pr→B | mk _ n _ _ _ _ _ _ _ _ _ _ _ _=>n
def ch:Pr→Ex | mk _ _ e _ _ _ _ _ _ _ _ _ _ _=>e
def tg:Pr→Sli Ex | mk _ _ _ t _ _ _ _ _ _ _ _ _ _=>t
def ex:Pr→Sli Ex | mk _ _ _ _ e _ _ _ _ _ _ _ _ _=>e
def rep:Pr→Rp | mk _ _ _ _ _ r _ _ _ _ _ _ _ _=>r
def ga:Pr→Option Addr | mk _ _ _ _ _ _ a _ _ _ _ _ _ _=>a
def gc:Pr→Nat | mk _ _ _ _ _ _ _ c _ _ _ _ _ _=>c
def gl:Pr→List Gu | mk _ _ _ _ _ _ _ _ l _ _ _ _ _=>l
def la:Pr→Option Addr | mk _ _ _ _ _ _ _ _ _ a _ _ _ _=>a
def lc:Pr→Nat | mk _ _ _ _ _ _ _ _ _ _ c _ _ _=>c
def ll:Pr→List Pr | mk _ _ _ _ _ _ _ _ _ _ _ l _ _=>l
def pn:Pr→Sli Int | mk _ _ _ _ _ _ _ _ _ _ _ _ p _=>p
def sp:Pr→Sp | mk _ _ _ _ _ _ _ _ _ _ _ _ _ s=>s
end Pr
def a3H (n:Int):List Value:=[.int .i64 n]
theorem a8N (n:Int):(a3H n).length=1:=rfl
set_option linter.defProp false in
@[reducible,instance]def iencN_len:=Go.Eng.Ln.mk a8N (by decide)
def foE (f:Fo):List Value:=[.bool f.val,.int .u8 f.ty.kind,.int .i64 f.ty.dim,.int .u8 f.ty.item,str f.ty.proto,str f.name]
theorem a4s (f:Fo):(foE f).length=6:=rfl
set_option linter.defProp false in
@[reducible,instance]def ifoE_len:=Go.Eng.Ln.mk a4s (by decide)
def rpE (r:Rp):List Value:=[str r.name,.int .u8 r.base.k,.int .u8 r.base.o,.int .u8 r.base.t,.int .i32 r.base.n,str r.base.s,.slice r.base.a r.base.l.length r.base.c,
 .int .u8 r.count.k,.int .u8 r.count.o,.int .u8 r.count.t,.int .i32 r.count.n,str r.count.s,.slice r.count.a r.count.l.length r.count.c]
def spE (s:Sp):List Value:=[.int .u8 s.k,.int .u8 s.ty.kind,.int .i64 s.ty.dim,.int .u8 s.ty.item,str s.ty.proto,.slice s.names.a s.names.l.length s.names.c,
 .int .u8 s.e.k,.int .u8 s.e.o,.int .u8 s.e.t,.int .i32 s.e.n,str s.e.s,.slice s.e.a s.e.l.length s.e.c,.bool s.cs,.slice s.vs.a s.vs.l.length s.vs.c,.slice s.fs.a s.fs.l.length s.fs.c,.slice s.ba s.bl.length s.bc]
def guE (g:Gu):List Value:=[.int .u8 g.k,str g.name,.int .u8 g.cond.k,.int .u8 g.cond.o,.int .u8 g.cond.t,.int .i32 g.cond.n,str g.cond.s,.slice g.cond.a g.cond.l.length g.cond.c,
 .int .u8 g.ch.k,.int .u8 g.ch.o,.int .u8 g.ch.t,.int .i32 g.ch.n,str g.ch.s,.slice g.ch.a g.ch.l.length g.ch.c,.slice g.tg.a g.tg.l.length g.tg.c,.slice g.vl.a g.vl.l.length g.vl.c,
 .int .u8 g.time.k,.int .u8 g.time.o,.int .u8 g.time.t,.int .i32 g.time.n,str g.time.s,.slice g.time.a g.time.l.length g.time.c,.slice g.ba g.bl.length g.bc]
theorem a5B (g:Gu):(guE g).length=23:=rfl
set_option linter.defProp false in
@[reducible,instance]def iguE_len:=Go.Eng.Ln.mk a5B (by decide)
def prE (p:Pr):List Value:=[.int .u8 p.k,str p.name,.int .u8 p.ch.k,.int .u8 p.ch.o,.int .u8 p.ch.t,.int .i32 p.ch.n,str p.ch.s,.slice p.ch.a p.ch.l.length p.ch.c,
 .slice p.tg.a p.tg.l.length p.tg.c,.slice p.ex.a p.ex.l.length p.ex.c,
 str p.rep.name,.int .u8 p.rep.base.k,.int .u8 p.rep.base.o,.int .u8 p.rep.base.t,.int .i32 p.rep.base.n,str p.rep.base.s,.slice p.rep.base.a p.rep.base.l.length p.rep.base.c,
 .int .u8 p.rep.count.k,.int .u8 p.rep.count.o,.int .u8 p.rep.count.t,.int .i32 p.rep.count.n,str p.rep.count.s,.slice p.rep.count.a p.rep.count.l.length p.rep.count.c,
 .slice p.ga p.gl.length p.gc,.slice p.la p.ll.length p.lc,.slice p.pn.a p.pn.l.length p.pn.c,
 .int .u8 p.sp.k,.int .u8 p.sp.ty.kind,.int .i64 p.sp.ty.dim,.int .u8 p.sp.ty.item,str p.sp.ty.proto,.slice p.sp.names.a p.sp.names.l.length p.sp.names.c,
 .int .u8 p.sp.e.k,.int .u8 p.sp.e.o,.int .u8 p.sp.e.t,.int .i32 p.sp.e.n,str p.sp.e.s,.slice p.sp.e.a p.sp.e.l.length p.sp.e.c,.bool p.sp.cs,.slice p.sp.vs.a p.sp.vs.l.length p.sp.vs.c,.slice p.sp.fs.a p.sp.fs.l.length p.sp.fs.c,.slice p.sp.ba p.sp.bl.length p.sp.bc]
theorem a1W (p:Pr):(prE p).length=42:=rfl
set_option linter.defProp false in
@[reducible,instance]def iprE_len:=Go.Eng.Ln.mk a1W (by decide)
def foV (f:Fo):Value:=.agg (foE f).toArray
def rpV (r:Rp):Value:=.agg (rpE r).toArray
def spV (s:Sp):Value:=.agg (spE s).toArray
def guV (g:Gu):Value:=.agg (guE g).toArray
def prV (p:Pr):Value:=.agg (prE p).toArray
mutual
def N8:Pr→Nat
 | .mk _ _ _ _ _ _ _ _ gl _ _ ll _ sp=>1+(P0 ll+(b2r sp+a0F gl))
def P0:List Pr→Nat
 | []=>0
 | x::r=>N8 x+P0 r
def b4o:Gu→Nat
 | .mk _ _ _ _ _ _ _ _ _ bl=>P0 bl
def a0F:List Gu→Nat
 | []=>0
 | x::r=>b4o x+a0F r
def b2r:Sp→Nat
 | .mk _ _ _ _ _ _ _ _ _ bl=>P0 bl
end
theorem a7b (p:Pr):N8 p=1+(P0 p.ll+(b2r p.sp+a0F p.gl)):=by cases p;rfl
theorem a6X (s:Sp):b2r s=P0 s.bl:=by cases s;rfl
theorem b0Q (g:Gu):b4o g=P0 g.bl:=by cases g;rfl
theorem a4g:∀ {l:List Pr} {x:Pr},x ∈ l→N8 x≤P0 l
 | y::r,x,h=>by
   unfold P0
   rcases List.mem_cons.1 h with rfl | h
   · omega
   · have:=a4g h
     omega
theorem a9D:∀ {l:List Gu} {x:Gu},x ∈ l→b4o x≤a0F l
 | y::r,x,h=>by
   unfold a0F
   rcases List.mem_cons.1 h with rfl | h
   · omega
   · have:=a9D h
     omega
theorem a5u (p:Pr):1≤N8 p:=by rw[a7b];omega
inductive In:Pr→Pr→Prop
 | l {x p:Pr} (h:x ∈ p.ll):In x p
 | s {x p:Pr} (h:x ∈ p.sp.bl):In x p
 | g {x p:Pr} {g:Gu} (hg:g ∈ p.gl) (h:x ∈ g.bl):In x p
theorem In.lt {x p:Pr} (h:In x p):N8 x < N8 p:=by
 rw[a7b p]
 cases h with
 | l h=>have:=a4g h;omega
 | s h=>
   have:=a4g h
   rw[← a6X] at this
   omega
 | g hg h=>
   have h1:=a4g h
   have h2:=a9D hg
   rw[← b0Q] at h1
   omega
theorem Pr.ind {q:Pr→Prop} (h:∀ p,(∀ x,In x p→q x)→q p) (p:Pr):q p:=by
 have key:∀ n p,N8 p≤n→q p:=by
   intro n
   induction n with
   | zero=>intro p hp;have:=a5u p;omega
   | succ n ih=>intro p hp;exact h p fun x hx=>ih x (by have:=hx.lt;omega)
 exact key (N8 p) p (Nat.le_refl _)
structure EOk (m:View) (h:List Res) (e:Ex):Prop where
 t:TOk m h e
 w:Wf e
theorem EOk.mono {m:View} {h h':List Res} {e:Ex} (q:EOk m h e) (s:h.Sublist h'):EOk m h' e:=⟨q.t.mono s,q.w⟩
structure LOk (m:View) (h:List Res) (s:Sli Ex):Prop where
 rd:Rd m h s.a s.l.length s.c 6 (fl exE s.l)
 ok:∀ x ∈ s.l,EOk m h x
theorem LOk.mono {m:View} {h h':List Res} {s:Sli Ex} (q:LOk m h s) (r:h.Sublist h'):LOk m h' s:=⟨q.rd.mono (View.le.refl m) r,fun x hx=>(q.ok x hx).mono r⟩
abbrev Big:Nat:=140737488355328
structure TyW (t:Ty):Prop where
 k:0≤t.kind∧t.kind≤255
 i:0≤t.item∧t.item≤255
 d:-9223372036854775808≤t.dim∧t.dim≤9223372036854775807
 p:t.proto.length≤Big
structure FoW (f:Fo):Prop where
 t:TyW f.ty
 n:f.name.length≤Big
structure SOk (m:View) (h:List Res) (s:Sp):Prop where
 k:0≤s.k∧s.k≤255
 ty:TyW s.ty
 nr:Rd m h s.names.a s.names.l.length s.names.c 1 (fl encB s.names.l)
 nw:∀ x ∈ s.names.l,x.length≤Big
 e:EOk m h s.e
 v:PrOk m h s.vs.a s.vs.l.length s.vs.c s.vs.l
 vw:∀ x ∈ s.vs.l,x.items.length=x.n
 fr:Rd m h s.fs.a s.fs.l.length s.fs.c 6 (fl foE s.fs.l)
 fw:∀ x ∈ s.fs.l,FoW x
 b:Rd m h s.ba s.bl.length s.bc 42 (fl prE s.bl)
structure GOk (m:View) (h:List Res) (g:Gu):Prop where
 k:0≤g.k∧g.k≤255
 n:g.name.length≤Big
 cond:EOk m h g.cond
 ch:EOk m h g.ch
 tg:LOk m h g.tg
 vl:LOk m h g.vl
 time:EOk m h g.time
 b:Rd m h g.ba g.bl.length g.bc 42 (fl prE g.bl)
structure P1 (m:View) (h:List Res) (p:Pr):Prop where
 k:0≤p.k∧p.k≤255
 n:p.name.length≤Big
 ch:EOk m h p.ch
 tg:LOk m h p.tg
 ex:LOk m h p.ex
 rn:p.rep.name.length≤Big
 rb:EOk m h p.rep.base
 rc:EOk m h p.rep.count
 g:Rd m h p.ga p.gl.length p.gc 23 (fl guE p.gl)
 gs:∀ x ∈ p.gl,GOk m h x
 l:Rd m h p.la p.ll.length p.lc 42 (fl prE p.ll)
 pn:Rd m h p.pn.a p.pn.l.length p.pn.c 1 (fl a3H p.pn.l)
 pw:∀ x ∈ p.pn.l,-9223372036854775808≤x∧x≤9223372036854775807
 sp:SOk m h p.sp
inductive POk (m:View) (h:List Res):Pr→Prop
 | mk {p:Pr} (o:P1 m h p) (s:∀ x,In x p→POk m h x):POk m h p
theorem POk.own {m:View} {h:List Res} {p:Pr} (q:POk m h p):P1 m h p:=by cases q;assumption
theorem POk.sub {m:View} {h:List Res} {p x:Pr} (q:POk m h p) (hx:In x p):POk m h x:=by cases q with | mk o s=>exact s x hx
theorem SOk.mono {m:View} {h h':List Res} {s:Sp} (q:SOk m h s) (r:h.Sublist h'):SOk m h' s:=
 ⟨q.k,q.ty,q.nr.mono (View.le.refl m) r,q.nw,q.e.mono r,q.v.mono (View.le.refl m) r,q.vw,q.fr.mono (View.le.refl m) r,q.fw,q.b.mono (View.le.refl m) r⟩
theorem GOk.mono {m:View} {h h':List Res} {g:Gu} (q:GOk m h g) (r:h.Sublist h'):GOk m h' g:=
 ⟨q.k,q.n,q.cond.mono r,q.ch.mono r,q.tg.mono r,q.vl.mono r,q.time.mono r,q.b.mono (View.le.refl m) r⟩
theorem P1.mono {m:View} {h h':List Res} {p:Pr} (q:P1 m h p) (r:h.Sublist h'):P1 m h' p:=
 ⟨q.k,q.n,q.ch.mono r,q.tg.mono r,q.ex.mono r,q.rn,q.rb.mono r,q.rc.mono r,q.g.mono (View.le.refl m) r,fun x hx=>(q.gs x hx).mono r,q.l.mono (View.le.refl m) r,q.pn.mono (View.le.refl m) r,q.pw,q.sp.mono r⟩
theorem POk.mono {m:View} {h h':List Res} {p:Pr} (q:POk m h p) (r:h.Sublist h'):POk m h' p:=by
 induction q with
 | mk o _ ih=>exact .mk (o.mono r) ih
end Go.Pc
end
section
namespace Go.Pc
open Go.Eng Go.Xp Go
open Go.Ty (Ty Vr)
def Z7 (e:Ex):Bool:=F2 e A3
def O1 (e:Ex):Bool:=((e.k==4)||(e.k==5))&&M4 e
def b3M (a b:Int) (n:Int):Bool:=decide (n ≥ a)&&decide (n≤b)
def a0W {α:Type} (l:List α) (a b:Int) (q:α→Bool):Bool:=b3M a b l.length&&!(l.any fun x=>!q x)
structure Us where
 rep:Bool
 name:Bool
 chan:Bool
 spec:Bool
 procs:Bool
 t0:Int
 t1:Int
 e0:Int
 e1:Int
 p0:Int
 p1:Int
 g0:Int
 g1:Int
 lo:Int
 hi:Int
def usE (u:Us):List Value:=[.bool u.rep,.bool u.name,.bool u.chan,.bool u.spec,.bool u.procs,.int .i64 u.t0,.int .i64 u.t1,.int .i64 u.e0,.int .i64 u.e1,.int .i64 u.p0,.int .i64 u.p1,.int .i64 u.g0,.int .i64 u.g1,.int .u8 u.lo,.int .u8 u.hi]
def us0:Us:=⟨false,false,false,false,false,0,0,0,0,0,0,0,0,0,0⟩
def C2 (k:Int):Us × Bool:=
 if k=1 then (us0,true) else if k=2 then (us0,true)
 else if k=3 then ({ us0 with t0:=1,t1:=8,e0:=1,e1:=8 },true)
 else if k=4 then ({ us0 with chan:=true,t0:=1,t1:=8 },true)
 else if k=5 then ({ us0 with chan:=true,e0:=1,e1:=9 },true)
 else if k=6 then ({ us0 with chan:=true,e0:=1,e1:=1 },true)
 else if k=7 then ({ us0 with chan:=true,g0:=1,g1:=16,lo:=7,hi:=7 },true)
 else if k=8 then ({ us0 with rep:=true,p0:=0,p1:=2048 },true) else if k=9 then ({ us0 with rep:=true,p0:=0,p1:=2048 },true)
 else if k=10 then ({ us0 with p0:=2,p1:=2 },true)
 else if k=11 then ({ us0 with procs:=true,p0:=1,p1:=8 },true)
 else if k=12 then ({ us0 with rep:=true,g0:=0,g1:=16,lo:=2,hi:=4 },true) else if k=13 then ({ us0 with rep:=true,g0:=0,g1:=16,lo:=2,hi:=4 },true)
 else if k=14 then ({ us0 with rep:=true,g0:=0,g1:=16,lo:=1,hi:=1 },true)
 else if k=15 then ({ us0 with e0:=1,e1:=1,g0:=0,g1:=16,lo:=5,hi:=6 },true)
 else if k=16 then ({ us0 with e0:=1,e1:=1,p0:=1,p1:=1 },true)
 else if k=17 then ({ us0 with name:=true,e0:=0,e1:=8 },true)
 else if k=18 then ({ us0 with spec:=true,p0:=1,p1:=1 },true)
 else (us0,false)
def a1M (t:Ty):Bool:=Go.Ty.may t&&(t.dim==0)&&decide (t.kind≤3)
def a5A (r:Rp):Bool:=if r.name==[] then Z7 r.base&&Z7 r.count else Go.Lx.name r.name&&M4 r.base&&M4 r.count
def foP (f:Fo):Bool:=Go.Lx.name f.name&&Go.Ty.may f.ty&&(!f.val||a1M f.ty)
def a3o (u a z:Bool):Bool:=if u then a else z
def a7J (g:Gu):Bool:=if (g.k==3)||(g.k==4) then M4 g.cond||Z7 g.cond else M4 g.cond
def guP (g:Gu):Bool:=
 (g.k != 0)&&decide (g.k≤7)&&((g.bl.length:Int)==1) &&
 a3o ((g.k==1)||(g.k==2)||(g.k==3)||(g.k==4)) (a7J g) (Z7 g.cond) &&
 a3o (g.k==7) (Go.Lx.name g.name) (g.name==[]) &&
 a3o ((g.k==3)||(g.k==4)) (O1 g.ch) (Z7 g.ch) &&
 a3o (g.k==4) (M4 g.time) (Z7 g.time) &&
 a0W g.tg.l (if g.k=3 then 1 else 0) (if g.k=3 then 8 else if g.k=7 then 8 else 0) O1&&a0W g.vl.l (if g.k=5 then 1 else 0) (if g.k=5 then 8 else 0) M4
def a0U (f g:Fo):Bool:=(f.val==g.val)&&(Go.Ty.eqT f.ty g.ty&&((f.name==g.name)&&true))
def R6 (x y:Vr):Bool:=(x.tag==y.tag)&&(x.items==y.items)
def a0g (a b:Sp):Bool:=((((((((a.k==b.k)&&Go.Ty.eqT a.ty b.ty)&&(a.names.l==b.names.l))&&F2 a.e b.e)&&(a.cs==b.cs))&&eqL R6 a.vs.l b.vs.l)&&eqL a0U a.fs.l b.fs.l)&&((a.bl.length:Int)==b.bl.length))
def a3d (s:Sp):Sp:=
 if s.k=1 then .mk s.k s.ty s.names A3 false B5 B5 none 0 []
 else if s.k=2 then .mk s.k s.ty s.names s.e false B5 B5 none 0 []
 else if s.k=3 then .mk s.k s.ty s.names s.e false B5 B5 none 0 []
 else if s.k=4 then .mk s.k Go.Ty.zeroT s.names A3 s.cs s.vs B5 none 0 []
 else .mk s.k Go.Ty.zeroT s.names A3 false B5 s.fs s.ba s.bc s.bl
def a2D (s:Sp):Bool:=
 if s.k=1 then Go.Ty.may s.ty
 else if s.k=2 then a1M s.ty&&M4 s.e
 else if s.k=3 then a1M s.ty&&O1 s.e
 else if s.k=4 then Go.Ty.mayPr s.cs s.vs.l
 else ((s.bl.length:Int)==1)&&a0W s.fs.l 0 8 foP
def spP (s:Sp):Bool:=
 if 1≤s.k∧s.k≤5 then a2D s&&a0W s.names.l 1 (if s.k=1 then 8 else 1) Go.Lx.name&&a0g s (a3d s) else false
def D2:Sp:=.mk 0 Go.Ty.zeroT B5 A3 false B5 B5 none 0 []
def inG (u:Us) (g:Gu):Bool:=decide (g.k ≥ u.lo)&&decide (g.k≤u.hi)&&guP g
def b7s (u:Us):Bool:=(u.p0==0)&&(u.p1==2048)
def b7R (u:Us):Us:=if b7s u then { u with p0:=1,p1:=1 } else { u with g0:=1,g1:=1 }
def W2 (p:Pr) (u:Us):Bool:=
 b3M u.p0 u.p1 p.ll.length&&a0W p.gl u.g0 u.g1 (inG u) &&
 a3o u.name (Go.Lx.name p.name) (p.name==[]) &&
 a3o u.chan (O1 p.ch) (Z7 p.ch) &&
 a0W p.tg.l u.t0 u.t1 O1&&a0W p.ex.l u.e0 u.e1 M4 &&
 a0W p.pn.l (if u.procs then (p.ll.length:Int) else 0) (if u.procs then (p.ll.length:Int) else 0) (fun n=>decide (n ≥ 0)&&decide (n < 8)) &&
 ((u.spec&&spP p.sp)||(!u.spec&&(a0g p.sp D2)))
def M1 (p:Pr):Bool:=
 if !(C2 p.k).2||!a5A p.rep then false
 else if p.rep.name != [] then (if !(C2 p.k).1.rep then false else W2 p (b7R (C2 p.k).1)) else W2 p (C2 p.k).1
end Go.Pc
end
section
namespace Go.Pc
open Go.Eng Go.Xp Go
open Go.Ty (Ty Vr)
theorem U2 {α:Type} {l:List α} {a b:Int} {q:α→Bool} (h:a0W l a b q=true):(∀ x ∈ l,q x=true)∧a≤l.length∧(l.length:Int)≤b:=by
 unfold a0W b3M at h
 simp only[Bool.and_eq_true,decide_eq_true_eq,Bool.not_eq_true',List.any_eq_false] at h
 exact⟨fun x hx=>by have:=h.2 x hx;simpa using this,h.1.1,h.1.2⟩
theorem c4G {e:Ex} (h:O1 e=true):e.k=4∨e.k=5:=by
 unfold O1 at h
 simp only[Bool.and_eq_true,Bool.or_eq_true,beq_iff_eq] at h
 exact h.1
structure Pl (p:Pr):Prop where
 kd:(C2 p.k).2=true
 rep:a5A p.rep=true
 ch:(C2 p.k).1.chan=true→O1 p.ch=true
 nc:(C2 p.k).1.chan=false→Z7 p.ch=true
 tg:∀ x ∈ p.tg.l,O1 x=true
 ex:∀ x ∈ p.ex.l,M4 x=true
 tn:(C2 p.k).1.t0≤p.tg.l.length∧(p.tg.l.length:Int)≤(C2 p.k).1.t1
 en:(C2 p.k).1.e0≤p.ex.l.length∧(p.ex.l.length:Int)≤(C2 p.k).1.e1
 gs:∀ g ∈ p.gl,guP g=true∧(C2 p.k).1.lo≤g.k∧g.k≤(C2 p.k).1.hi
 gn:p.rep.name=[]→(C2 p.k).1.g0≤p.gl.length∧(p.gl.length:Int)≤(C2 p.k).1.g1
 pn:p.rep.name=[]→(C2 p.k).1.p0≤p.ll.length∧(p.ll.length:Int)≤(C2 p.k).1.p1
 rp:p.rep.name≠[]→(C2 p.k).1.rep=true
 sp:(C2 p.k).1.spec=true→spP p.sp=true
 ns:(C2 p.k).1.spec=false→a0g p.sp D2=true
theorem plU {p:Pr} {u:Us} (h:W2 p u=true):((b3M u.p0 u.p1 p.ll.length=true∧a0W p.gl u.g0 u.g1 (inG u)=true)∧a3o u.chan (O1 p.ch) (Z7 p.ch)=true)∧(a0W p.tg.l u.t0 u.t1 O1=true∧a0W p.ex.l u.e0 u.e1 M4=true)∧((u.spec&&spP p.sp)||(!u.spec&&(a0g p.sp D2)))=true:=by
 unfold W2 at h
 simp only[Bool.and_eq_true] at h
 obtain⟨⟨⟨⟨⟨⟨⟨h1,h2⟩,h3⟩,h4⟩,h5⟩,h6⟩,h7⟩,h8⟩:=h
 exact⟨⟨⟨h1,h2⟩,h4⟩,⟨h5,h6⟩,h8⟩
theorem b7W {u:Us} {g:Gu} (h:inG u g=true):guP g=true∧u.lo≤g.k∧g.k≤u.hi:=by
 unfold inG at h
 simp only[Bool.and_eq_true,decide_eq_true_eq] at h
 exact⟨h.2,h.1.1,h.1.2⟩
theorem b6w {a b n:Int} (h:b3M a b n=true):a≤n∧n≤b:=by
 unfold b3M at h
 simp only[Bool.and_eq_true,decide_eq_true_eq] at h
 exact h
theorem a4H {p:Pr} (h:M1 p=true):Pl p:=by
 unfold M1 at h
 split at h
 · cases h
 · rename_i h0
   have h1:(C2 p.k).2=true∧a5A p.rep=true:=by
     cases h2:(C2 p.k).2 <;> cases h3:a5A p.rep <;> simp_all
   have key:∀ u:Us,W2 p u=true→u.chan=(C2 p.k).1.chan→u.spec=(C2 p.k).1.spec→u.t0=(C2 p.k).1.t0→u.t1=(C2 p.k).1.t1→u.e0=(C2 p.k).1.e0→u.e1=(C2 p.k).1.e1→u.lo=(C2 p.k).1.lo→u.hi=(C2 p.k).1.hi →
       (p.rep.name=[]→u=(C2 p.k).1)→(p.rep.name≠[]→(C2 p.k).1.rep=true)→Pl p:=by
     intro u hu e1 e2 e3 e4 e5 e6 e7 e8 e9 e10
     obtain⟨⟨⟨q1,q2⟩,q3⟩,⟨q4,q5⟩,q6⟩:=plU hu
     obtain⟨g1,g2,g3⟩:=U2 q2
     obtain⟨t1,t2,t3⟩:=U2 q4
     obtain⟨x1,x2,x3⟩:=U2 q5
     refine⟨h1.1,h1.2,fun hc=>?_,fun hc=>?_,t1,x1,⟨e3 ▸ t2,e4 ▸ t3⟩,⟨e5 ▸ x2,e6 ▸ x3⟩,fun g hg=>?_,fun hr=>?_,fun hr=>?_,e10,fun hc=>?_,fun hc=>?_⟩
     · rw[e1,hc] at q3;exact q3
     · rw[e1,hc] at q3;exact q3
     · have:=b7W (g1 g hg)
       rw[e7,e8] at this
       exact this
     · rw[e9 hr] at g2 g3;exact⟨g2,g3⟩
     · rw[e9 hr] at q1;exact b6w q1
     · rw[e2,hc] at q6;simpa using q6
     · rw[e2,hc] at q6;simpa using q6
   split at h
   · rename_i hr
     have hr':p.rep.name≠[]:=by simpa using hr
     split at h
     · cases h
     · rename_i h4
       have h5:(C2 p.k).1.rep=true:=by simpa using h4
       unfold b7R at h
       split at h
       · exact key _ h rfl rfl rfl rfl rfl rfl rfl rfl (fun q=>absurd q hr') (fun _=>h5)
       · exact key _ h rfl rfl rfl rfl rfl rfl rfl rfl (fun q=>absurd q hr') (fun _=>h5)
   · rename_i hr
     have hr':p.rep.name=[]:=by simpa using hr
     exact key _ h rfl rfl rfl rfl rfl rfl rfl rfl (fun _=>rfl) (fun q=>absurd hr' q)
structure GuV (g:Gu):Prop where
 body:g.bl.length=1
 cond:1≤g.k→g.k≤4→M4 g.cond=true∨Z7 g.cond=true
 ch:g.k=3∨g.k=4→O1 g.ch=true
 time:g.k=4→M4 g.time=true
 tg:∀ x ∈ g.tg.l,O1 x=true
 vl:∀ x ∈ g.vl.l,M4 x=true
theorem b5z {g:Gu} (h:guP g=true):GuV g:=by
 unfold guP at h
 simp only[Bool.and_eq_true] at h
 obtain⟨⟨⟨⟨⟨⟨⟨⟨h1,h2⟩,h3⟩,h4⟩,h5⟩,h6⟩,h7⟩,h8⟩,h9⟩:=h
 refine⟨by simp only[beq_iff_eq] at h3;omega,fun a b=>?_,fun a=>?_,fun a=>?_,(U2 h8).1,(U2 h9).1⟩
 · have hk:((g.k==1)||(g.k==2)||(g.k==3)||(g.k==4))=true:=by
     have:g.k=1∨g.k=2∨g.k=3∨g.k=4:=by omega
     rcases this with q | q | q | q <;> rw[q] <;> rfl
   rw[hk] at h4
   replace h4:a7J g=true:=h4
   unfold a7J at h4
   split at h4
   · simp only[Bool.or_eq_true] at h4;exact h4
   · exact .inl h4
 · have hk:((g.k==3)||(g.k==4))=true:=by rcases a with q | q <;> rw[q] <;> rfl
   rw[hk] at h6
   exact h6
 · have hk:(g.k==4)=true:=by rw[a];rfl
   rw[hk] at h7
   exact h7
structure SpV (s:Sp):Prop where
 kd:1≤s.k∧s.k≤5
 ev:s.k=2→M4 s.e=true
 es:s.k=3→O1 s.e=true
 body:s.k=5→s.bl.length=1
 fs:s.k=5→s.fs.l.length≤8
theorem c2c {s:Sp} (h:spP s=true):SpV s:=by
 unfold spP at h
 split at h
 · rename_i hk
   simp only[Bool.and_eq_true] at h
   have hf:=h.1.1
   unfold a2D at hf
   refine⟨hk,fun e=>?_,fun e=>?_,fun e=>?_,fun e=>?_⟩
   · rw[if_neg (by omega),if_pos e] at hf
     simp only[Bool.and_eq_true] at hf
     exact hf.2
   · rw[if_neg (by omega),if_neg (by omega),if_pos e] at hf
     simp only[Bool.and_eq_true] at hf
     exact hf.2
   · rw[if_neg (by omega),if_neg (by omega),if_neg (by omega),if_neg (by omega)] at hf
     simp only[Bool.and_eq_true,beq_iff_eq] at hf
     omega
   · rw[if_neg (by omega),if_neg (by omega),if_neg (by omega),if_neg (by omega)] at hf
     simp only[Bool.and_eq_true,beq_iff_eq] at hf
     have:=(U2 hf.2).2.2
     omega
 · cases h
inductive Vld:Pr→Prop
 | mk {p:Pr} (h:M1 p=true) (s:∀ x,In x p→Vld x):Vld p
theorem Vld.own {p:Pr} (q:Vld p):Pl p:=by cases q with | mk h _=>exact a4H h
theorem Vld.sub {p x:Pr} (q:Vld p) (hx:In x p):Vld x:=by cases q with | mk _ s=>exact s x hx
end Go.Pc
end
section
namespace Go.Pc
open Go.Eng Go.Xp Go
open Go.Ty (Ty Vr)
def X6 (p:Pr) (d:Int) (pl:Bool) (left:Int):Bool:=((decide (left - 1 < 0)||decide (d > 32))||!M1 p)||((p.k==11)&&!pl)
mutual
def H1:Pr→Int→Bool→Int→Bool × Int
 | .mk k name ch tg ex rep ga gc gl la lc ll pn sp,d,pl,left=>
   if X6 (.mk k name ch tg ex rep ga gc gl la lc ll pn sp) d pl left then (false,left - 1)
   else if k=18 then
     (if (a0h sp d (left - 1)).1 then
       (if (R7 ll d pl (a0h sp d (left - 1)).2).1 then a2j gl (d+2) (R7 ll d pl (a0h sp d (left - 1)).2).2 else R7 ll d pl (a0h sp d (left - 1)).2)
     else a0h sp d (left - 1))
   else if (R7 ll (if k=11 then d+2 else d+1) false (left - 1)).1 then a2j gl (d+2) (R7 ll (if k=11 then d+2 else d+1) false (left - 1)).2
   else R7 ll (if k=11 then d+2 else d+1) false (left - 1)
def R7:List Pr→Int→Bool→Int→Bool × Int
 | [],_,_,q=>(true,q)
 | x::r,d,pl,q=>if (H1 x d pl q).1 then R7 r d pl (H1 x d pl q).2 else H1 x d pl q
def a4x:List Pr→Int→Int→Bool × Int
 | [],_,q=>(true,q)
 | x::_,d,q=>H1 x d false q
def a1w:Gu→Int→Int→Bool × Int
 | .mk _ _ _ _ _ _ _ _ _ bl,d,q=>a4x bl d q
def a2j:List Gu→Int→Int→Bool × Int
 | [],_,q=>(true,q)
 | g::r,d,q=>if (a1w g d q).1 then a2j r d (a1w g d q).2 else a1w g d q
def a0h:Sp→Int→Int→Bool × Int
 | .mk _ _ _ _ cs _ _ _ _ bl,d,q=>if cs&&decide (d+2 > 32) then (false,q) else a4x bl (d+1) q
end
theorem a2J (p:Pr) (d:Int) (pl:Bool) (left:Int):H1 p d pl left =
   if X6 p d pl left then (false,left - 1)
   else if p.k=18 then
     (if (a0h p.sp d (left - 1)).1 then
       (if (R7 p.ll d pl (a0h p.sp d (left - 1)).2).1 then a2j p.gl (d+2) (R7 p.ll d pl (a0h p.sp d (left - 1)).2).2 else R7 p.ll d pl (a0h p.sp d (left - 1)).2)
     else a0h p.sp d (left - 1))
   else if (R7 p.ll (if p.k=11 then d+2 else d+1) false (left - 1)).1 then a2j p.gl (d+2) (R7 p.ll (if p.k=11 then d+2 else d+1) false (left - 1)).2
   else R7 p.ll (if p.k=11 then d+2 else d+1) false (left - 1):=by cases p;rfl
theorem a5G (g:Gu) (d q:Int):a1w g d q=a4x g.bl d q:=by cases g;rfl
theorem a7c (s:Sp) (d q:Int):a0h s d q=if s.cs&&decide (d+2 > 32) then (false,q) else a4x s.bl (d+1) q:=by cases s;rfl
def mayP (p:Pr):Bool:=(H1 p 0 true 2048).1
theorem c2S {s:Sp} (h:spP s=true):s.bl.length≤1:=by
 have hV:=c2c h
 by_cases h5:s.k=5
 · have:=hV.body h5;omega
 · unfold spP at h
   rw[if_pos hV.kd] at h
   simp only[Bool.and_eq_true] at h
   have h2:=h.2
   unfold a0g at h2
   simp only[Bool.and_eq_true,beq_iff_eq] at h2
   have h3:=h2.2
   have hw:(a3d s).bl.length=0:=by
     unfold a3d
     split
     · rfl
     split
     · rfl
     split
     · rfl
     split
     · rfl
     · have:=hV.kd
       omega
   omega
theorem c2M {s:Sp} (h:a0g s D2=true):s.bl=[]:=by
 unfold a0g at h
 simp only[Bool.and_eq_true,beq_iff_eq] at h
 have h3:(s.bl.length:Int)=0:=h.2
 exact List.eq_nil_of_length_eq_zero (by omega)
theorem b1K {k:Int} (h:k≠18):(C2 k).1.spec=false:=by
 unfold C2
 by_cases h1:k=1
 · rw[if_pos h1];rfl
 rw[if_neg h1]
 by_cases h2:k=2
 · rw[if_pos h2];rfl
 rw[if_neg h2]
 by_cases h3:k=3
 · rw[if_pos h3];rfl
 rw[if_neg h3]
 by_cases h4:k=4
 · rw[if_pos h4];rfl
 rw[if_neg h4]
 by_cases h5:k=5
 · rw[if_pos h5];rfl
 rw[if_neg h5]
 by_cases h6:k=6
 · rw[if_pos h6];rfl
 rw[if_neg h6]
 by_cases h7:k=7
 · rw[if_pos h7];rfl
 rw[if_neg h7]
 by_cases h8:k=8
 · rw[if_pos h8];rfl
 rw[if_neg h8]
 by_cases h9:k=9
 · rw[if_pos h9];rfl
 rw[if_neg h9]
 by_cases h10:k=10
 · rw[if_pos h10];rfl
 rw[if_neg h10]
 by_cases h11:k=11
 · rw[if_pos h11];rfl
 rw[if_neg h11]
 by_cases h12:k=12
 · rw[if_pos h12];rfl
 rw[if_neg h12]
 by_cases h13:k=13
 · rw[if_pos h13];rfl
 rw[if_neg h13]
 by_cases h14:k=14
 · rw[if_pos h14];rfl
 rw[if_neg h14]
 by_cases h15:k=15
 · rw[if_pos h15];rfl
 rw[if_neg h15]
 by_cases h16:k=16
 · rw[if_pos h16];rfl
 rw[if_neg h16]
 by_cases h17:k=17
 · rw[if_pos h17];rfl
 rw[if_neg h17]
 rw[if_neg h]
 rfl
theorem b2k {p:Pr} {d left:Int} {pl:Bool} (h:X6 p d pl left=false):(0≤left - 1∧d≤32)∧M1 p=true:=by
 unfold X6 at h
 simp only[Bool.or_eq_false_iff,decide_eq_false_iff_not,Bool.not_eq_false'] at h
 exact⟨⟨by omega,by omega⟩,h.1.2⟩
def Cnt (n:Nat) (q:Int) (r:Bool × Int):Prop:=r.1=true→(n:Int)=q - r.2∧0≤r.2
theorem a7M {l:List Pr} {d q:Int} (hq:0≤q) (hl:l.length≤1) (ih:∀ x ∈ l,∀ d pl q,0≤q→(H1 x d pl q).1=true→Vld x∧Cnt (N8 x) q (H1 x d pl q)) (h:(a4x l d q).1=true):(∀ x ∈ l,Vld x)∧(P0 l:Int)=q - (a4x l d q).2∧0≤(a4x l d q).2:=by
 match l,hl with
 | [],_=>exact⟨fun x hx=>(by cases hx),by show((0:Nat):Int)=q - q;omega,hq⟩
 | [x],_=>
   have h':(H1 x d false q).1=true:=h
   obtain⟨h1,h2⟩:=ih x (List.Mem.head _) d false q hq h'
   obtain⟨h3,h4⟩:=h2 h'
   refine⟨fun y hy=>by cases List.mem_singleton.1 hy;exact h1,?_,h4⟩
   show((N8 x+0:Nat):Int)=_
   rw[Nat.add_zero]
   exact h3
theorem a8O {d:Int} {pl:Bool}:∀ {l:List Pr} {q:Int},0≤q→(∀ x ∈ l,∀ d pl q,0≤q→(H1 x d pl q).1=true→Vld x∧Cnt (N8 x) q (H1 x d pl q))→(R7 l d pl q).1=true→(∀ x ∈ l,Vld x)∧(P0 l:Int)=q - (R7 l d pl q).2∧0≤(R7 l d pl q).2
 | [],q,hq,_,_=>⟨fun x hx=>(by cases hx),by show((0:Nat):Int)=q - q;omega,hq⟩
 | x::r,q,hq,ih,h=>by
   have e:R7 (x::r) d pl q=if (H1 x d pl q).1 then R7 r d pl (H1 x d pl q).2 else H1 x d pl q:=rfl
   rw[e] at h ⊢
   cases hc:(H1 x d pl q).1 with
   | false=>rw[hc,if_neg (by decide)] at h;rw[hc] at h;cases h
   | true=>
     rw[hc,if_pos rfl] at h
     rw[if_pos rfl]
     obtain⟨h1,h2⟩:=ih x (List.Mem.head _) d pl q hq hc
     obtain⟨h3,h4⟩:=h2 hc
     obtain⟨h5,h6,h7⟩:=a8O h4 (fun y hy=>ih y (List.Mem.tail _ hy)) h
     refine⟨fun y hy=>?_,?_,h7⟩
     · rcases List.mem_cons.1 hy with rfl | hy
       · exact h1
       · exact h5 y hy
     · show((N8 x+P0 r:Nat):Int)=_
       omega
theorem a7p {d:Int}:∀ {l:List Gu} {q:Int},0≤q→(∀ g ∈ l,g.bl.length≤1)→(∀ g ∈ l,∀ x ∈ g.bl,∀ d pl q,0≤q→(H1 x d pl q).1=true→Vld x∧Cnt (N8 x) q (H1 x d pl q))→(a2j l d q).1=true→(∀ g ∈ l,∀ x ∈ g.bl,Vld x)∧(a0F l:Int)=q - (a2j l d q).2∧0≤(a2j l d q).2
 | [],q,hq,_,_,_=>⟨fun x hx=>(by cases hx),by show((0:Nat):Int)=q - q;omega,hq⟩
 | g::r,q,hq,hb,ih,h=>by
   have e:a2j (g::r) d q=if (a1w g d q).1 then a2j r d (a1w g d q).2 else a1w g d q:=rfl
   rw[e,a5G] at h ⊢
   cases hc:(a4x g.bl d q).1 with
   | false=>rw[hc,if_neg (by decide)] at h;rw[hc] at h;cases h
   | true=>
     rw[hc,if_pos rfl] at h
     rw[if_pos rfl]
     obtain⟨h1,h3,h4⟩:=a7M hq (hb g (List.Mem.head _)) (ih g (List.Mem.head _)) hc
     obtain⟨h5,h6,h7⟩:=a7p h4 (fun g' hg=>hb g' (List.Mem.tail _ hg)) (fun g' hg=>ih g' (List.Mem.tail _ hg)) h
     refine⟨fun y hy=>?_,?_,h7⟩
     · rcases List.mem_cons.1 hy with rfl | hy
       · exact h1
       · exact h5 y hy
     · show((b4o g+a0F r:Nat):Int)=_
       rw[b0Q]
       omega
theorem a7g (p:Pr):∀ (d:Int) (pl:Bool) (q:Int),0≤q→(H1 p d pl q).1=true→Vld p∧Cnt (N8 p) q (H1 p d pl q):=by
 refine Pr.ind (q:=fun p=>∀ (d:Int) (pl:Bool) (q:Int),0≤q→(H1 p d pl q).1=true→Vld p∧Cnt (N8 p) q (H1 p d pl q)) (fun p ih d pl q hq h=>?_) p
 have e:=a2J p d pl q
 cases hh:X6 p d pl q with
 | true=>rw[hh,if_pos rfl] at e;rw[e] at h;cases h
 | false=>
   rw[hh,if_neg (by decide)] at e
   obtain⟨⟨h0,_⟩,hpl⟩:=b2k hh
   have hV:=a4H hpl
   have hgb:∀ g ∈ p.gl,g.bl.length≤1:=fun g hg=>by have:=(b5z (hV.gs g hg).1).body;omega
   have ihL:∀ x ∈ p.ll,∀ d pl q,0≤q→(H1 x d pl q).1=true→Vld x∧Cnt (N8 x) q (H1 x d pl q):=fun x hx=>ih x (In.l hx)
   have ihG:∀ g ∈ p.gl,∀ x ∈ g.bl,∀ d pl q,0≤q→(H1 x d pl q).1=true→Vld x∧Cnt (N8 x) q (H1 x d pl q):=fun g hg x hx=>ih x (In.g hg hx)
   have ihS:∀ x ∈ p.sp.bl,∀ d pl q,0≤q→(H1 x d pl q).1=true→Vld x∧Cnt (N8 x) q (H1 x d pl q):=fun x hx=>ih x (In.s hx)
   have mk:(∀ x ∈ p.ll,Vld x)→(∀ g ∈ p.gl,∀ x ∈ g.bl,Vld x)→(∀ x ∈ p.sp.bl,Vld x)→Vld p:=fun a b c=>.mk hpl fun x hx=>by
     cases hx with
     | l h=>exact a x h
     | s h=>exact c x h
     | g hg h=>exact b _ hg x h
   have hcp:=a7b p
   by_cases h18:p.k=18
   · rw[if_pos h18] at e
     have hsl:p.sp.bl.length≤1:=c2S (hV.sp (by rw[h18];rfl))
     cases hS:(a0h p.sp d (q - 1)).1 with
     | false=>rw[hS,if_neg (by decide)] at e;rw[e,hS] at h;cases h
     | true=>
       rw[hS,if_pos rfl] at e
       have hSS:(∀ x ∈ p.sp.bl,Vld x)∧(P0 p.sp.bl:Int)=(q - 1) - (a0h p.sp d (q - 1)).2∧0≤(a0h p.sp d (q - 1)).2:=by
         rw[a7c] at hS ⊢
         split at hS
         · cases hS
         · rename_i hc
           rw[if_neg hc]
           exact a7M h0 hsl ihS hS
       obtain⟨s1,s2,s3⟩:=hSS
       cases hL:(R7 p.ll d pl (a0h p.sp d (q - 1)).2).1 with
       | false=>rw[hL,if_neg (by decide)] at e;rw[e,hL] at h;cases h
       | true=>
         rw[hL,if_pos rfl] at e
         obtain⟨l1,l2,l3⟩:=a8O s3 ihL hL
         rw[e] at h
         obtain⟨g1,g2,g3⟩:=a7p l3 hgb ihG h
         refine⟨mk l1 g1 s1,fun _=>?_⟩
         rw[e]
         rw[a6X] at hcp
         exact⟨by omega,g3⟩
   · rw[if_neg h18] at e
     have hsn:p.sp.bl=[]:=by
       have hsp:(C2 p.k).1.spec=false:=b1K h18
       exact c2M (hV.ns hsp)
     cases hL:(R7 p.ll (if p.k=11 then d+2 else d+1) false (q - 1)).1 with
     | false=>rw[hL,if_neg (by decide)] at e;rw[e,hL] at h;cases h
     | true=>
       rw[hL,if_pos rfl] at e
       obtain⟨l1,l2,l3⟩:=a8O h0 ihL hL
       rw[e] at h
       obtain⟨g1,g2,g3⟩:=a7p l3 hgb ihG h
       refine⟨mk l1 g1 (by rw[hsn];intro x hx;cases hx),fun _=>?_⟩
       rw[e]
       rw[a6X,hsn] at hcp
       replace hcp:N8 p=1+(P0 p.ll+(0+a0F p.gl)):=hcp
       exact⟨by omega,g3⟩
theorem b9n {p:Pr} (h:mayP p=true):Vld p∧N8 p≤2048:=by
 obtain⟨h1,h2⟩:=a7g p 0 true 2048 (by decide) h
 obtain⟨h3,h4⟩:=h2 h
 exact⟨h1,by omega⟩
end Go.Pc
end
section
namespace Go.Ty
open Go.Lx
def a1Y:B:=[67,72,65,78]
def cOF:B:=[79,70]
def a3j:B:=[84,73,77,69,82]
def lb:B:=[91]
def rb:B:=[93]
def C3 (s:B):Tok:=⟨5,0,s,0⟩
def a0O (s:B):Tok:=⟨2,0,s,0⟩
def dimT (t:Ty):List Tok:=if decide (t.dim > 0) then [C3 lb,⟨3,0,[],t.dim⟩,C3 rb] else []
def chanT (t:Ty):List Tok:=if t.kind==4 then [a0O a1Y,a0O cOF] else []
def a6D (t:Ty):Int:=if t.kind==4 then t.item else t.kind
def lastT (t:Ty):Tok:=if (wordS (a6D t)).2.2 then a0O (wordS (a6D t)).1 else if !(t.proto==[]) then ⟨1,0,t.proto,0⟩ else a0O a3j
def toks (t:Ty):List Tok:=dimT t++chanT t++[lastT t]
def tokens (t:Ty):List Tok × Int:=if may t then (toks t,0) else ([],2)
theorem a9P {t:Ty} (h:may t=false):tokens t=([],2):=by unfold tokens;rw[h];rfl
theorem a0n {t:Ty} (h:may t=true):tokens t=(toks t,0):=by unfold tokens;rw[h];rfl
theorem dimT_le (t:Ty):(dimT t).length≤3:=by unfold dimT;split <;> simp
theorem chanT_le (t:Ty):(chanT t).length≤2:=by unfold chanT;split <;> simp
theorem may_dim {t:Ty} (h:may t=true):0≤t.dim∧t.dim≤64:=by
 unfold may at h
 split at h
 · cases h
 · rename_i hf
   unfold far at hf
   simp at hf
   omega
theorem b94 {t:Ty} (h:may t=true):IntKind.i32.wrap t.dim=t.dim:=by
 have:=may_dim h
 unfold IntKind.wrap
 simp[IntKind.bits,IntKind.signed]
 omega
end Go.Ty
end
section
namespace Go.Ty
open Go.Lx
def TkOk (l:List Tok):Prop:=∀ x,x ∈ l→(-2147483648≤x.n∧x.n≤2147483647)∧x.text.length≤9223372036854775807
def I8 (l:List Tok) (n:Nat):Tok:=l.getD n zeroK
theorem a1d {l:List Tok} {n:Nat} (h:n < l.length):l[n]?=some (I8 l n):=by
 unfold I8;rw[List.getD_eq_getElem?_getD,List.getElem?_eq_getElem h];rfl
def a2G (l:List Tok) (n:Nat) (kd:Int) (s:B):Bool:=
 decide ((n:Int) ≥ (l.length:Int))||((I8 l n).kind != kd)||!((I8 l n).text==s)||((kd != 3)&&((I8 l n).n != 0))
def next (l:List Tok) (n:Nat) (kd:Int) (s:B):Bool:=!a2G l n kd s
def nx (b:Bool) (n:Nat):Nat:=if b then n+1 else n
theorem a2V {l:List Tok} {n:Nat} {kd:Int} {s:B} (h:next l n kd s=true):n < l.length:=by
 unfold next a2G at h
 simp at h
 omega
def a2g (l:List Tok) (n:Nat):List Pm→Option Int
 | []=>none
 | p::r=>if next l n 2 p.word then some p.kind else a2g l n r
theorem a5M (l:List Tok) (n:Nat) {r:List Pm} {i:Nat} {p:Pm} (hp:r[i]?=some p):a2g l n (r.drop i)=if next l n 2 p.word then some p.kind else a2g l n (r.drop (i+1)):=by
 have h1:i < r.length:=(List.getElem?_eq_some_iff.1 hp).1
 rw[List.drop_eq_getElem_cons h1,(List.getElem?_eq_some_iff.1 hp).2]
 rfl
def named (l:List Tok) (n:Nat):Option Int:=a2g l n prims
def nmB (l:List Tok) (n:Nat):Bool:=(named l n).isSome
def a4p (t:Ty):Option Int→Ty
 | some k=>{ t with kind:=k }
 | none=>t
def a5j (t:Ty):Option Int→Ty
 | some k=>{ t with item:=k }
 | none=>t
theorem a8u {l:List Tok} {n:Nat}:∀ {r:List Pm} {k:Int},a2g l n r=some k→n < l.length
 | p::r,k,h=>by
   unfold a2g at h
   split at h
   · rename_i hn;exact a2V hn
   · exact a8u h
theorem c3e {l:List Tok} {n:Nat} (h:nmB l n=true):n < l.length:=by
 unfold nmB at h
 cases hn:named l n with
 | none=>rw[hn] at h;cases h
 | some k=>exact a8u hn
def pre (l:List Tok):Bool × Int × Nat:=
 if next l 0 5 lb then
   (if next l 1 3 [] then
     (if decide ((I8 l 1).n > 0)&&next l 2 5 rb then (true,(I8 l 1).n,3) else (false,(I8 l 1).n,2))
    else (false,0,1))
 else (true,0,0)
def mid (l:List Tok):Bool × Ty × Nat:=
 match pre l with
 | (false,d,n)=>(false,⟨0,d,0,[]⟩,n)
 | (true,d,n)=>
   match named l n with
   | some k=>(true,⟨k,d,0,[]⟩,n+1)
   | none=>
     if next l n 2 a1Y then
       (if next l (n+1) 2 cOF then
         (match named l (n+2) with
          | some k=>(true,⟨4,d,k,[]⟩,n+3)
          | none=>if decide ((n+2:Nat) < (l.length:Int))&&next l (n+2) 1 (I8 l (n+2)).text then (true,⟨4,d,0,(I8 l (n+2)).text⟩,n+3) else (true,⟨4,d,0,[]⟩,n+2))
        else (false,⟨4,d,0,[]⟩,n+1))
     else if next l n 2 a3j then (true,⟨5,d,0,[]⟩,n+1) else (true,⟨0,d,0,[]⟩,n)
def front (l:List Tok):Ty × Nat × Int:=
 match mid l with
 | (ok,t,n)=>if !ok||!may t then (zeroT,0,90) else (t,n,0)
theorem c07 {b:Bool} {n L:Nat} (h1:b=true→n < L) (h2:n≤L):nx b n≤L:=by
 unfold nx
 cases b
 · exact h2
 · exact h1 rfl
theorem b3Z {l:List Tok} (h1:next l 0 5 lb=true) (h2:next l 1 3 []=true) :
   pre l=(decide ((I8 l 1).n > 0)&&next l 2 5 rb,(I8 l 1).n,nx (decide ((I8 l 1).n > 0)&&next l 2 5 rb) 2):=by
 unfold pre
 rw[h1,h2]
 generalize (decide ((I8 l 1).n > 0)&&next l 2 5 rb)=b
 cases b <;> rfl
theorem b8b {l:List Tok} (h1:next l 0 5 lb=true) (h2:next l 1 3 []=false):pre l=(false,0,1):=by
 unfold pre
 rw[h1,h2]
 rfl
theorem b8j {l:List Tok} (h1:next l 0 5 lb=false):pre l=(true,0,0):=by
 unfold pre
 rw[h1]
 rfl
theorem c2t {l:List Tok} {ok:Bool} {d:Int} {n:Nat} (hP:pre l=(ok,d,n)) (hc:(!ok||nmB l n)=true):mid l=(ok,a4p ⟨0,d,0,[]⟩ (if ok then named l n else none),nx (ok&&nmB l n) n):=by
 unfold mid
 rw[hP]
 cases ok with
 | false=>rfl
 | true=>
   unfold nmB at hc ⊢
   cases hn:named l n with
   | none=>rw[hn] at hc;cases hc
   | some k=>simp only[hn];rfl
theorem b4j {l:List Tok} {n:Nat} (h:nmB l n=false):named l n=none:=by
 unfold nmB at h
 cases hn:named l n with
 | none=>rfl
 | some k=>rw[hn] at h;cases h
theorem c00 {l:List Tok} {d:Int} {n N N2:Nat} {o b:Bool} {T2:Ty} (hP:pre l=(true,d,n)) (hn:named l n=none) (h38:next l n 2 a1Y=true) (ho:next l (n+1) 2 cOF=o) (hN:nx o (n+1)=N) (hN2:nx (o&&nmB l N) N=N2)
   (hT:a5j ⟨4,d,0,[]⟩ (if o then named l N else none)=T2) (hb:((o&&!nmB l N)&&decide ((N2:Int) < l.length)&&next l N2 1 (I8 l N2).text)=b) :
   mid l=(o,if b then { T2 with proto:=(I8 l N2).text } else T2,nx b N2):=by
 unfold mid
 rw[hP]
 simp only[hn,h38,ho,if_true]
 cases o with
 | false=>
   subst hT hN2 hN
   simp at hb
   subst hb
   rfl
 | true=>
   have e:N=n+2:=hN.symm
   subst e
   simp only[if_true]
   unfold nmB at hN2 hb
   cases hm:named l (n+2) with
   | some k=>
     rw[hm] at hN2 hb hT
     simp at hb
     subst hb hT hN2
     rfl
   | none=>
     rw[hm] at hN2 hb hT
     have e:N2=n+2:=hN2.symm
     subst e
     have hb':(decide (((n+2:Nat):Int) < (l.length:Int))&&next l (n+2) 1 (I8 l (n+2)).text)=b:=by simpa using hb
     simp only[hb']
     subst hT
     cases b <;> rfl
theorem b0j {l:List Tok} {d:Int} {n:Nat} (hP:pre l=(true,d,n)) (hn:named l n=none) (h38:next l n 2 a1Y=false) (h73:next l n 2 a3j=true):mid l=(true,⟨5,d,0,[]⟩,n+1):=by
 unfold mid
 rw[hP]
 simp only[hn,h38,h73,if_true,Bool.false_eq_true,if_false]
theorem b4C {l:List Tok} {d:Int} {n:Nat} (hP:pre l=(true,d,n)) (hn:named l n=none) (h38:next l n 2 a1Y=false) (h73:next l n 2 a3j=false):mid l=(true,⟨0,d,0,[]⟩,n):=by
 unfold mid
 rw[hP]
 simp only[hn,h38,h73,Bool.false_eq_true,if_false]
theorem b1N {l:List Tok} {ok:Bool} {t:Ty} {n:Nat} (h:mid l=(ok,t,n)) (hc:(!ok||!may t)=true):front l=(zeroT,0,90):=by
 unfold front
 rw[h]
 simp only[hc,if_true]
theorem b07 {l:List Tok} {ok:Bool} {t:Ty} {n:Nat} (h:mid l=(ok,t,n)) (hc:(!ok||!may t)=false):front l=(t,n,0):=by
 unfold front
 rw[h]
 simp only[hc,Bool.false_eq_true,if_false]
theorem wrapN {z:Int} (h:-2147483648≤z∧z≤2147483647):IntKind.i64.wrap z=z:=by
 unfold IntKind.wrap
 simp[IntKind.bits,IntKind.signed]
 omega
end Go.Ty
end
section
namespace Go.Ly
open Go.Eng
abbrev B:=List UInt8
structure Rw where
 no:Int
 depth:Int
 text:B
structure Pc where
 no:Nat
 ind:Nat
 text:B
def encB (s:B):List Value:=[str s]
theorem D1 (s:B):(encB s).length=1:=rfl
set_option linter.defProp false in
@[reducible,instance]def iencB_len:=Go.Eng.Ln.mk D1 (by decide)
def I6 (r:Rw):List Value:=[.int .i64 r.no,.int .i64 r.depth,str r.text]
theorem C7 (r:Rw):(I6 r).length=3:=rfl
set_option linter.defProp false in
@[reducible,instance]def iencR_len:=Go.Eng.Ln.mk C7 (by decide)
def b7O (acc:B):B→List B
 | []=>[acc]
 | c::l=>if c==10 then acc::b7O [] l else b7O (acc++[c]) l
theorem c1V:∀ s:B,(Lib.indexByte s 10=-1∧(10:UInt8) ∉ s)∨∃ a r,s=a++10::r∧(10:UInt8) ∉ a∧Lib.indexByte s 10=a.length
 | []=>.inl ⟨rfl,by simp⟩
 | c::l=>by
   unfold Lib.indexByte
   by_cases hc:(c==10)=true
   · rw[if_pos hc]
     exact .inr ⟨[],l,by rw[eq_of_beq hc];rfl,by simp,rfl⟩
   · rw[if_neg hc]
     have hc':c≠10:=fun e=>hc (by simp[e])
     rcases c1V l with ⟨e,h⟩ | ⟨a,r,rfl,h,e⟩
     · rw[e]
       exact .inl ⟨rfl,by simp[h,Ne.symm hc']⟩
     · rw[e,if_neg (by simp)]
       exact .inr ⟨c::a,r,rfl,by simp[h,Ne.symm hc'],by simp⟩
def a6Q:B→B
 | []=>[]
 | c::l=>if c==45&&l.head?==some 45 then [] else c::a6Q l
theorem c2K (c:UInt8) (l:B):([45,45]:B).isPrefixOf (c::l)=(c==45&&l.head?==some 45):=by
 cases l with
 | nil=>simp[List.isPrefixOf]
 | cons d l=>
   simp only[List.isPrefixOf,List.head?_cons,Bool.and_true]
   rw[show((45:UInt8)==c)=(c==45) from Bool.beq_comm,show((45:UInt8)==d)=(some d==some 45) from (Bool.beq_comm:((45:UInt8)==d)=(d==45))]
theorem b9w:∀ s:B,(Lib.cut s [45,45]).1=a6Q s
 | []=>rfl
 | c::l=>by
   have ih:=b9w l
   have hge:=Lib.index_ge l [45,45]
   unfold Lib.cut at ih ⊢
   unfold a6Q Lib.index
   rw[c2K]
   by_cases hc:(c==45&&l.head?==some 45)=true
   · rw[if_pos hc,if_pos hc];rfl
   · rw[if_neg hc,if_neg hc,← ih]
     by_cases hi:Lib.index l [45,45]=-1
     · have e1:(Lib.index l [45,45]==-1)=true:=by simp[hi]
       simp only[e1,if_true]
       rw[if_neg (by decide),if_neg (by omega)]
     · have e1:(Lib.index l [45,45]==-1)=false:=by simpa using hi
       simp only[e1,Bool.false_eq_true,if_false]
       rw[if_pos (by omega),if_pos (by omega)]
       rw[show(Lib.index l [45,45]+1).toNat=(Lib.index l [45,45]).toNat+1 by omega]
       rfl
def c2G (s:B):B:=Lib.trimRightB (a6Q s) 32
def txt (s:B):B:=Lib.trimLeftB (c2G s) 32
def ind (s:B):Nat:=(c2G s).length - (txt s).length
def a9X:B:=[44,59,40,91,43,45,42,47,92,61,60,62,126,38]
def a6S (s:B):Bool:=match s.getLast? with
 | none=>false
 | some c=>a9X.contains c
theorem b2I (c:UInt8):∀ l:B,decide (Lib.indexByte l c ≥ 0)=l.contains c
 | []=>rfl
 | x::l=>by
   have ih:=b2I c l
   have hge:=Lib.indexByte_ge l c
   unfold Lib.indexByte
   rw[List.contains_cons,show(c==x)=(x==c) from Bool.beq_comm]
   by_cases h:(x==c)=true
   · rw[if_pos h,h];rfl
   · rw[if_neg h,show(x==c)=false by simpa using h,Bool.false_or,← ih]
     by_cases hi:Lib.indexByte l c=-1
     · rw[if_pos (by simp[hi]),hi]
     · rw[if_neg (by simpa using hi)]
       apply decide_eq_decide.2
       omega
def okB (c:UInt8):Bool:=decide ((c.toNat:Int) ≥ 32)&&decide ((c.toNat:Int)≤126)
structure S where
 parts:List B
 first:Pc
 before:Int
 last:Nat
 out:List Rw
abbrev Out:=List Rw × Nat × Nat
def a9r (s:S):B:=Lib.join s.parts [32]
def c5j (s:S):Bool:=decide (s.first.ind / 2 > 32)||decide ((a9r s).length > 256)||decide (s.out.length=2048)
def c3a (s:S):S:=⟨[],s.first,(s.first.ind / 2:Nat),s.last,s.out++[⟨s.first.no,(s.first.ind / 2:Nat),a9r s⟩]⟩
def c5i (k:S→Out) (s:S):Out:=if a6S (a9r s) then k s else if c5j s then ([],s.first.no,3) else k (c3a s)
def c2P (s:S) (p:Pc):Bool:=!s.parts.isEmpty&&decide (p.ind < s.first.ind)
def c2A (s:S) (p:Pc):Bool:=s.parts.isEmpty&&(decide (p.ind % 2=1)||decide (((p.ind / 2:Nat):Int) > s.before+1))
def a9m (s:S) (p:Pc):S:=⟨s.parts++[p.text],if s.parts.isEmpty then p else s.first,s.before,p.no,s.out⟩
def run:List Pc→S→Out
 | [],s=>if s.parts.isEmpty then (s.out,0,0) else ([],s.last,5)
 | p::ps,s=>if c2P s p then ([],p.no,70) else if c2A s p then ([],p.no,70) else c5i (run ps) (a9m s p)
def s0:S:=⟨[],⟨0,0,[]⟩,-1,0,[]⟩
theorem b1A (p:Pc) (ps:List Pc) (s:S):run (p::ps) s=if c2P s p then ([],p.no,70) else if c2A s p then ([],p.no,70) else c5i (run ps) (a9m s p):=rfl
end Go.Ly
end
section
namespace Go.Ly
open Go.Eng
theorem b5N (ps:List B) (t:B):Lib.join (ps++[t]) [32]=if ps.isEmpty then t else Lib.join ps [32]++32::t:=by
 cases ps with
 | nil=>exact Lib.join_one t [32]
 | cons x r=>
   rw[List.cons_append,Lib.join_cons,Lib.join_cons]
   simp[Lib.joinTail]
theorem b6j (s:S) (p:Pc):a9r (a9m s p)=if s.parts.isEmpty then p.text else a9r s++32::p.text:=b5N _ _
structure PcOk (p:Pc):Prop where
 ne:p.text≠[]
 len:p.text.length≤65536
 ind:p.ind≤65536
 no:p.no≤65537
structure Inv (N:Nat) (s:S):Prop where
 cnt:s.parts.length+s.out.length≤N
 txt:(a9r s).length≤N * 65537
 bef:-1≤s.before∧s.before≤65536
 ind:s.first.ind≤65536
 out:s.out.length≤2048
theorem Inv.start:Inv 0 s0:=⟨by decide,by decide,by decide,by decide,by decide⟩
theorem Inv.take {N:Nat} {s:S} {p:Pc} (h:Inv N s) (hp:PcOk p):Inv (N+1) (a9m s p):=by
 have h1:=h.cnt
 have h2:=h.txt
 have h3:=hp.len
 have h4:=h.ind
 have h5:=hp.ind
 refine⟨by simp only[a9m,List.length_append,List.length_singleton];omega,?_,h.bef,?_,h.out⟩
 · rw[b6j]
   split
   · omega
   · simp
     omega
 · simp only[a9m]
   split <;> omega
end Go.Ly
end
section
namespace Go.Ly
open Go.Eng
theorem R8 {α:Type} {l:List α} {k:Nat} {c:α} (hc:l[k]?=some c):l.drop k=c::l.drop (k+1):=by
 have h1:k < l.length:=(List.getElem?_eq_some_iff.1 hc).1
 rw[List.drop_eq_getElem_cons h1,(List.getElem?_eq_some_iff.1 hc).2]
theorem a2h {α:Type} {l:List α} {k:Nat} {c:α} (hc:l[k]?=some c):l.take (k+1)=l.take k++[c]:=take_snoc hc

theorem b3W {l:B} {c:UInt8} (h:(c==32)=false):Lib.trimRightB (l++[c]) 32=l++[c]:=by
 simp[Lib.trimRightB,h]
theorem Inv.mono {N N':Nat} {s:S} (h:Inv N s) (hn:N≤N'):Inv N' s:=by
 have h1:=h.cnt
 have h2:=h.txt
 exact⟨Nat.le_trans h1 hn,Nat.le_trans h2 (Nat.mul_le_mul_right 65537 hn),h.bef,h.ind,h.out⟩
end Go.Ly
end
section
namespace Go.Ly
open Go.Eng
def b6r (s:B):Bool:=(((((s==[])||decide ((s.length:Int) > 256))||(Lib.trimB s 32 != s))||Lib.contains s [45,45])||a6S s)
def validP (s:B):Bool:=!b6r s&&s.all okB
def badR (no depth:Int) (x:Rw):Bool:=((((decide (x.no≤no)||decide (x.no > 65536))||decide (x.depth < 0))||decide (x.depth > if 32 < depth+1 then 32 else depth+1))||!validP x.text)
def mayA (no depth size:Int):List Rw→Bool
 | []=>decide (size≤65537)
 | x::r=>if badR no depth x then false else mayA x.no x.depth (size+2 * x.depth+x.text.length+1) r
def mayP (l:List Rw):Bool:=if (l.length:Int) > 2048 then false else mayA 0 (-1) 0 l
theorem a9K {no depth size:Int} {l:List Rw} {k:Nat} {x:Rw} (hx:l[k]?=some x):mayA no depth size (l.drop k)=if badR no depth x then false else mayA x.no x.depth (size+2 * x.depth+x.text.length+1) (l.drop (k+1)):=by
 rw[R8 hx]
 rfl
theorem validP_spec {s:B} (h:validP s=true):s≠[]∧s.length≤256∧Lib.trimB s 32=s∧Lib.contains s [45,45]=false∧a6S s=false∧s.all okB=true:=by
 simp only[validP,b6r,Bool.and_eq_true,Bool.not_eq_true',Bool.or_eq_false_iff,decide_eq_false_iff_not,bne_eq_false_iff_eq,beq_eq_false_iff_ne] at h
 obtain⟨⟨⟨⟨⟨h1,h2⟩,h3⟩,h4⟩,h5⟩,h6⟩:=h
 exact⟨h1,by omega,h3,h4,h5,h6⟩
theorem b0o {no depth:Int} {x:Rw} (h:badR no depth x=false):no < x.no∧x.no≤65536∧0≤x.depth∧x.depth≤depth+1∧x.depth≤32∧validP x.text=true:=by
 simp only[badR,Bool.or_eq_false_iff,decide_eq_false_iff_not,Bool.not_eq_false'] at h
 obtain⟨⟨⟨⟨h1,h2⟩,h3⟩,h4⟩,h5⟩:=h
 split at h4 <;> exact⟨by omega,by omega,by omega,by omega,by omega,h5⟩
theorem mayA_all:∀ {l:List Rw} {no depth size:Int},mayA no depth size l=true→∀ x ∈ l,0≤x.depth∧x.depth≤32∧validP x.text=true
 | [],_,_,_,_,x,hx=>by cases hx
 | y::r,no,depth,size,h,x,hx=>by
   unfold mayA at h
   split at h
   · cases h
   · rename_i hb
     obtain⟨h1,h2,h3,h4,h5,h6⟩:=b0o (by simpa using hb)
     rcases List.mem_cons.1 hx with rfl | hx
     · exact⟨h3,h5,h6⟩
     · exact mayA_all h x hx
theorem mayP_all {l:List Rw} (h:mayP l=true):l.length≤2048∧∀ x ∈ l,0≤x.depth∧x.depth≤32∧x.text.length≤256:=by
 unfold mayP at h
 split at h
 · cases h
 · exact⟨by omega,fun x hx=>by obtain⟨h1,h2,h3⟩:=mayA_all h x hx;exact⟨h1,h2,(validP_spec h3).2.1⟩⟩
def eqR (x y:Rw):Bool:=x.no==y.no&&(x.depth==y.depth&&(x.text==y.text&&true))
theorem b0C (x y:Rw):eqR x y=true↔x=y:=by
 cases x;cases y
 simp[eqR]
theorem b0U {x y:Rw} (h:(!eqR x y)=true):eqR x y=false:=by simpa using h
theorem b1d {x y:Rw} (h:(!eqR x y)=false):eqR x y=true:=by simpa using h
end Go.Ly
end
