import Derived.Test.YtmhkeomphdddaaaGreatDoorLListsY5
import Derived.Lib.SplitLaws
import Derived.Lib.JoinLaws
import Derived.Lib.Repeat
set_option maxRecDepth 100000
set_option maxHeartbeats 2000000
namespace Go.Proofs.YtmhkeomphdddaaaGreatDoor.Ly7
section
open Go.Eng Go.Ly Go
theorem a7b (l:B) (c:UInt8) (h:List Res) (m:View):CT Tryz.prog 72 [str l,.int .u8 c.toNat] h m (A3 h (.int .i64 (Lib.indexByte l c))):=
 CT.ofCalls Tryz.call72 fun w _=>by
  have:=Tryz.strings_IndexByte ⟨l.toArray⟩ c.toNat w;rw[show(c.toNat:Int).toNat.toUInt8=c by simp] at this;exact this
theorem b2Y (c:UInt8) (h:List Res) (m:View):CT Tryz.prog 48 [.int .u8 c.toNat] h m (A3 h (.bool (okB c))):=by
 refine CT.body Tryz.call48 Tryz.func48 rfl Tryz.ntmps48 Lb rfl ?_;refine kQ1 [0] ?_;refine kQ7 [2] ?_;refine wT h ?_;exact⟨rfl,rfl⟩
theorem b5R {s:B} (h0:s≠[]):∃ c,s[s.length - 1]?=some c/\b5j s=b6v.contains c:=by
 refine⟨s.getLast h0,?_,?_⟩
 ·rw[<- List.getLast?_eq_getElem?,List.getLast?_eq_some_getLast h0]
 ·unfold b5j
  rw[List.getLast?_eq_some_getLast h0]
theorem a9F (s:B) (h0:s≠[]) (hs:s.length<=9223372036854775807) (h:List Res) (m:View):CT Tryz.prog 47 [str s] h m (A3 h (.bool (b5j s))):=by
 obtain⟨c,hc,he⟩:=b5R h0;have hp:0 < s.length:=List.length_pos_iff.2 h0;refine CT.body Tryz.call47 Tryz.func47 rfl Tryz.ntmps47 Lb rfl ?_;refine kQ1 [0] ?_;refine kA2 ?_;refine xG (L2 uu9 Et) ?_;refine xG (U0 Et Ek (by omega)) ?_;refine WL.val (v':=.int .i64 ((s.length - 1:Nat):Int)) (congrArg (Value.int .i64) (by omega)) ?_;refine xG (I7 uu9 Et Et rfl (by assumption)) ?_;refine xf (E2 Ek Et) (CT.argsE rfl (a7b b6v c _ _)) ?_;refine kQ2 [2] ?_;refine wT h ?_;exact⟨by rw[he,<- b1H],rfl⟩
theorem c0t (s:B) (h:List Res) (m:View) (hs:s.length<=9223372036854775807):CT Tryz.prog 45 [str s,str [32]] h m (A3 h (str (Lib.trimB s 32))):=
 ⟨Tryz.call45,fun w st=>Calls.mono (Tryz.strings_Trim_one ⟨s.toArray⟩ 32 (by decide) w hs) (by
  rintro e w' ⟨rfl,hw⟩;rcases hw with rfl | rfl
  ·exact⟨_,m,h,rfl,Vl,st,rfl,rfl⟩
  ·exact⟨_,m,h,rfl,Vl,st.drew,rfl,rfl⟩)⟩
theorem b7D {m:View} (hg:Glob m) (s:B) (hs:s.length<=140737488355328) (h:List Res):CT Tryz.prog 27 [str s] h m (A3 h (.bool (validP s))):=by
 have hs':s.length<=140737488355328:=by omega
 have hs2:s.length<=9223372036854775807:=by omega
 have hd:∀ k,k < s.length->s[k]?=some (s.getD k 0):=fun k hi=>by rw[List.getD_eq_getElem?_getD,List.getElem?_eq_getElem hi];rfl
 refine CT.body Tryz.call27 Tryz.func27 rfl Tryz.ntmps27 Lb rfl ?_;refine kQ1 [0] ?_;refine kA1 ?_;refine xG (M6 Et Ek) ?_;refine kA2 ?_;refine zG (fun hc=>L2 uu9 (Eg hc)) ?_;refine kA4 ?_;refine A7 (GU.f rfl rfl) (fun hc=>⟨Ef,(E2 (Eg hc) Ek),c0t s _ _ hs2⟩) Lb ?_;refine kA1 ?_;refine zG (fun hc=>P2 (Eg hc) (Eg hc)) ?_;refine kA3 ?_;refine A7 (GU.f rfl rfl) (fun hc=>⟨Ef,(E2 (Eg hc) Ek),a0t hg s [45,45] (by simp at hc;omega) _⟩) Lb ?_;refine kA3 ?_;refine A7 (GU.f rfl rfl) (fun hc=>⟨Ef,(E1 (Eg hc)),a9F s (by intro e;subst e;simp at hc) hs2 _ _⟩) Lb ?_;refine kQ1 [0,24] ?_;refine wc (fun c24=>?_) fun c24=>?_
 have hb:b9P s=true:=c24;refine kQ1 [2] ?_;refine wT h ?_;exact⟨by unfold validP;rw[hb];rfl,rfl⟩;have hb:b9P s=false:=c24;have hv:validP s=s.all okB:=by unfold validP;rw[hb];rfl
 refine kQ0 [0] ?_;refine kA1 ?_;refine xG (L2 uu9 Et) ?_;refine kQ1 [0,26,27] ?_;refine B0 [0,26] rfl (fun μ F' h'=>∃ k:Nat,(k<=s.length/\s.all okB=(s.drop k).all okB)/\s.length - k=μ/\F'=[(27,.int .i64 k)]/\h=h') (s.length - 0) [(27,.int .i64 0)] (h0:=h) ?_ Sb ⟨0,⟨by omega,rfl⟩,rfl,rfl,rfl⟩ ?_;exact Su;rintro _ _ _ ⟨k,⟨hk,hJ⟩,rfl,rfl,rfl⟩;refine B1 rfl ?_;refine kQ1 [0,26,27,28] ?_;refine wc (fun c28=>?_) fun c28=>?_
 replace c28:=dT c28;obtain⟨c,hc⟩:=A5 (l:=s) (k:=k) (by omega);have hJ:s.all okB=(okB c&&(s.drop (k+1)).all okB):=by rw[hJ,W2 hc];rfl
 refine kQ0 [0,26,27] ?_;refine kQ2 [0,3,26,27] ?_;refine kA2 ?_;refine xG (I7 uu9 Et Et rfl (by assumption)) ?_;refine xf (E1 Et) (b2Y _ _ _) ?_;refine kQ1 [0,26,27,34] ?_;refine wc (fun c34=>?_) fun c34=>?_
 have hn:okB c=false:=by simpa using c34
 refine kQ1 [2] ?_;refine wT h ?_;exact⟨by rw[hv,hJ,hn];rfl,rfl⟩;have hn:okB c=true:=by simpa using c34
 refine kQ0 [0,26,27] ?_;refine kA2 ?_;refine WL.nil (A4 (s.length - (k+1)) [(27,.int .i64 (k+1))] (h'':=h) (by omega) ?_ Su Sb ⟨k+1,⟨by omega,by rw[hJ,hn];rfl⟩,rfl,rfl,rfl⟩);exact Su;replace c28:=dF c28;refine kQ0 [] ?_;refine kQ1 [2] ?_;refine wT h ?_;exact⟨by rw[hv,hJ,List.drop_eq_nil_of_le (by omega)];rfl,rfl⟩
theorem may_ct {m:View} (hg:Glob m) (a:Option Addr) (n c:Nat) (l:List Rw) (h:List Res) (hr:Rd m h a n c 3 (fl O6 l)) (hs:∀ x ∈ l,x.text.length<=140737488355328):CT Tryz.prog 12 [.slice a n c] h m (A3 h (.bool (mayP l))):=by
 have hl:=hr.lenF G8 (by decide);have hmx:=hr.mx;have hle:=hr.le;subst hl;refine CT.body Tryz.call12 Tryz.func12 rfl Tryz.ntmps12 Lb rfl ?_;refine kQ1 [0] ?_;refine kQ3 [0,10] ?_;refine wc (fun c10=>?_) fun c10=>?_
 replace c10:=dT c10;refine kQ1 [2] ?_;refine wT h ?_;exact⟨by unfold mayP;rw[if_pos c10],rfl⟩;replace c10:=dF c10;have hm:mayP l=b1p 0 (-1) 0 l:=by unfold mayP;rw[if_neg c10]
 refine kQ0 [0] ?_;refine kQ3 [0,3,4,5] ?_;refine kQ3 [3,4,5,11,12,13] ?_;refine B0 [11,12] rfl (fun μ F' h'=>∃ k:Nat,∃ no:Int,∃ dp:Int,∃ size:Int,((k<=l.length/\(-1<=dp/\dp<=32)/\(0<=size/\size<=k * 321))/\mayP l=b1p no dp size (l.drop k))/\l.length - k=μ/\F'=[(3,.int .i64 no),(4,.int .i64 dp),(5,.int .i64 size),(13,.int .i64 k)]/\h=h') (l.length - 0) [(3,.int .i64 0),(4,.int .i64 (-1)),(5,.int .i64 0),(13,.int .i64 0)] (h0:=h) ?_ Sb ⟨0,0,-1,0,⟨⟨by omega,by omega,by omega⟩,hm⟩,rfl,rfl,rfl⟩ ?_;exact Su;rintro _ _ _ ⟨k,no,dp,size,⟨⟨hk,hdp,hsz⟩,hJ⟩,rfl,rfl,rfl⟩;refine B1 rfl ?_;refine kQ1 [3,4,5,11,12,13,14] ?_;refine wc (fun c14=>?_) fun c14=>?_
 replace c14:=dT c14;obtain⟨x,hx⟩:=A5 (l:=l) (k:=k) (by omega);have hxs:=hs x (List.mem_of_getElem? hx);rw[b4o hx] at hJ;refine kQ0 [3,4,5,11,12,13] ?_;refine kA2 ?_;refine xW fun b7=>?_
 refine kQ1 [3,4,5,7,11,12,13] ?_;refine a6M ?_;refine kA6 ?_;refine F6 (GU.f rfl rfl) (fun hc=>M2 (Eg hc) Ek (by first | omega | (simp at hc;omega))) Lb ?_;refine zG (fun hc=>PO.min (Eg hc) Ek) ?_;refine kA5 ?_;refine A7 (GU.f rfl rfl) (fun hc=>⟨Ef,(E1 (Eg hc)),b7D hg x.text hxs _⟩) Lb ?_;refine kQ2 [5,7,11,12,13,44] ?_;refine wc (fun c44=>?_) fun c44=>?_
 have hb:b5c no dp x=true:=c44;rw[if_pos hb] at hJ;refine kQ1 [2] ?_;refine wT h ?_;exact⟨by rw[hJ],rfl⟩;have hb:b5c no dp x=false:=c44;rw[hb] at hJ;obtain⟨h1,h2,h3,h4,h5,h6⟩:=b3N hb;have h7:=(validP_spec h6).2.1;refine kQ0 [5,7,11,12,13] ?_;refine dS [] (.op 0 (.op 1 (.op 2 (.op 3 (.op 4 (.op 5 (.op 6 (.op 7 (.op 8 (.op 9 (.op 10 (.op 11 (.op 12 (.op 13 (.op 14 (.op 15 .nil)))))))))))))))) [16] D6 ?_;refine kA7 ?_;refine yG rfl (a9Q Ek Et (by omega)) ?_;refine yG rfl (M2 Et Et (by omega)) ?_;refine kA2 ?_;refine yG rfl (L2 uu9 Et) ?_;refine yG rfl (M2 Et Et (by omega)) ?_;refine yG rfl (M2 Et Ek (by omega)) ?_;refine yG rfl (PO.assign Et) ?_;refine yG rfl (PO.assign Et) ?_;refine SR.nil rfl rfl ?_;refine kQ1 [3,4,5,11,12,13] ?_;refine kA2 ?_
 refine WL.nil (A4 (l.length - (k+1)) [(3,.int .i64 (x.no)),(4,.int .i64 (x.depth)),(5,.int .i64 (size+2 * x.depth+x.text.length+1)),(13,.int .i64 (k+1))] (h'':=h) (by omega) ?_ Su Sb ⟨k+1,x.no,x.depth,size+2 * x.depth+x.text.length+1,⟨⟨by omega,by omega,by omega⟩,hJ⟩,rfl,rfl,rfl⟩);exact Su;replace c14:=dF c14;rw[List.drop_eq_nil_of_le (by omega)] at hJ;refine kQ0 [5] ?_;refine kQ3 [2] ?_;refine wT h ?_;exact⟨by rw[hJ];rfl,rfl⟩
end
end Go.Proofs.YtmhkeomphdddaaaGreatDoor.Ly7
namespace Go.Proofs.YtmhkeomphdddaaaGreatDoor
section
open Go.Eng Go.Pc Go.Sx Go
open Go.Xp hiding B D5
open Go.Ty (Ty Vr Tok eqT tyV I4 B2 B4 R1 zeroK L7 D3)
open Go.Lx (encB C4 lexO)
open Go.Ly (Rw O6 G8 mayP)
abbrev erR (b:Nat) (e:Int):Res:=.pt b (.cells [Value.int .i64 e].toArray 47 (0,0))
abbrev zP:Pr:=p0 0 [] A2 B7 B7 D1
theorem b9w (b0 b1:Nat) (h:List Res) (m:View):a8m Tryz.prog 28 [ptV b0,ptV b1] .returning m h h:=by
 refine a6o Tryz.func28 rfl rfl Tryz.ntmps28 Lb rfl Lb Lb (b1F rfl) rfl ?_;refine kA1 ?_;refine xG (a7k b8M Et rfl) ?_;refine kQ0 [0,1,2,7] ?_;refine wc (fun c7=>?_) fun c7=>?_
 cases c7;refine WC.skip (a6r (h2:=h) (.inr rfl) rfl Sb)
theorem c0E (b0 b1:Nat) (h:List Res) (m:View) (x:Pr) (k e:Int):a8m Tryz.prog 28 [ptV b0,ptV b1] (.panicking [{ v:=wrV e,recovered:=false }]) m (prR b0 x::erR b1 k::h) (prR b0 zP::erR b1 e::h):=by
 refine a6o Tryz.func28 rfl rfl Tryz.ntmps28 Lb rfl Lb Lb b1w (a6y _) ?_;refine kA1 ?_;refine xG (a7h b8M Et rfl) ?_;refine kQ0 [0,1,2,7] ?_;refine wc (fun c7=>?_) fun c7=>?_
 refine kA1 ?_;refine xG (a2I c0F Et) ?_;refine kA3 ?_;refine xW fun b3=>?_
 refine kQ2 [0,1,3,4] ?_;refine kQ2 [0,1,3,14] ?_;refine wc (fun c14=>?_) fun c14=>?_
 cases c14;refine WC.skip (kp [0,1,3] ?_);refine jE ?_;refine WC.take (r:=.pt b0 _) De ?_;refine F2 [3] (.op 0 (.op 1 (.op 2 (.op 3 .nil)))) [4] _ [_] D6 (fun _ _ _ _ _ h=>absurd h.1 (by rintro (q | q) <;> cases q)) [] (by kernel_rfl) ?_;refine yG rfl (PO.build S1 rfl rfl rfl EvP.nil rfl) ?_;refine kA2 ?_;refine SR.store rfl rfl rfl Et Et rfl rfl rfl rfl Up ?_;refine SR.nil rfl rfl ?_;refine kA1 ?_;refine WL.nil (a6r (h2:=prR b0 zP::erR b1 e::h) (.inr rfl) rfl Sb);cases c7
theorem b2v (x y z:Res) (h:List Res):(x::y::z::h).Perm (z::y::x::h):=(List.Perm.swap _ _ _).trans (((List.Perm.swap _ _ _).cons _).trans (List.Perm.swap _ _ _))
abbrev c3I (m:View) (z:Pz) (h:List Res) (v:Value) (h':List Res):Prop:=
 ∃ x bl j e,v=.tuple #[prV x,.int .i64 e]/\h'=psR z j::(bl++h)/\POk m bl x/\((e=0/\a9O z.R=.ok (stP x,j))\/(e≠0/\x=zP/\a9O z.R=.error (e,j)))
theorem c2a {m:View} (hg:Glob m) {z:Pz} (hz:Pok m z) (h:List Res):CT Tryz.prog 13 [ptV z.bp] (psR z 0::h) m (fun v _ h'=>c3I m z h v h'):=by
 have hR:=hz.ok.1;have hrd:=hz.rd.mono Vl (List.nil_sublist h);have hq:a9O z.R=P8 (B9 z.R z.R.length 0 true 0) fun x i=>match z.R[i]? with
  | none=>.ok (x,i)
  | some y=>.error (if (lexO y.text).2.2≠0 then (lexO y.text).2.2 else 110,i):=rfl
 have key:∀ (n:Cx) (F:Fm) (e:Int) (j:Nat) (y:Int) (p:Pr) (b2 b3:Nat),n.ds=[a84 28 [ptV b2,ptV b3]]->Go.Eng.look F 2=some (ptV b2)->Go.Eng.look F 3=some (ptV b3)->a9O z.R=.error (e,j)->∀ a w,Fr n F a->St m (psR z j::erR b3 y::prR b2 p::h) w ->
  bodyPostD Tryz.prog Tryz.f13 (RQ m (fun v _ h'=>c3I m z h v h')) (.panic [{ v:=wrV e,recovered:=false }]) a w:=fun n F e j y p b2 b3 hds e1 e2 hA a w ha hs=>
  c3W (P:=Tryz.prog) (fn:=Tryz.f13) (h':=psR z j::h) hds Tryz.call28 (c0E b2 b3 (psR z j::h) m p y e) rfl (I1 S1 rfl rfl e1 Me rfl) (V5 b5l rfl e2 Me rfl) Vl Sb
   ⟨zP,[],j,e,rfl,rfl,b5A _ _ (by decide),.inr ⟨c1v e j hA,rfl,hA⟩⟩ a w ha (hs.perm (b2v _ _ _ _))
 refine CT.bodyD Tryz.call13 Tryz.func13 rfl Tryz.ntmps13 Lb rfl ?_;refine j0 ?_;refine xW fun b2=>?_
 refine xW fun b3=>?_
 refine wn [0,2,3] ?_;refine jE ?_;refine a6J rfl fun ops hG=>?_
 refine WY.po rfl (PO.makeFunc Evs.nil (E2 Et Et)) Lb ?_;refine WY.defer rfl Et ?_;refine kp [0,2,3] ?_;refine kA1 ?_;refine pD (psR z 0) ?_;refine A0 Ef (E3 Et Ek Ek) (c2U hg hz z.R.length 0 0 true _ (by omega) (by omega) (by decide)) Lb (fun v hv hx=>?_) fun v6 h6 hr6=>?_
 ·obtain⟨e,j,hx1,rfl,rfl⟩:=hx
  rw[hx1] at hq;exact key _ _ e j 0 zP b2 b3 rfl rfl rfl hq
 obtain⟨x6,j6,bl6,hM6,hj6,⟨p6,rfl,rfl,hO6⟩,rfl⟩:=hr6;refine WL.perm ((Mv.perm).cons _) ?_;rw[hM6,O1] at hq;refine kA1 ?_;refine wn [0,2,3] ?_;refine jE ?_;refine WC.noPan ?_;refine dS [] (.op 0 (.op 1 (.op 2 (.op 3 (.op 4 (.op 5 (.op 6 (.op 7 (.op 8 .nil))))))))) [9] D6 ?_;refine kA8 ?_;refine yG rfl (S4 b1T Et) ?_;refine SR.nil rfl rfl ?_;refine kQ1 [0,2,3,16] ?_;refine wc (fun c16=>?_) fun c16=>?_
 replace c16:=dT c16;obtain⟨y,hel⟩:=A5 (l:=z.R) (k:=j6) (by omega);rw[hel] at hq;dsimp only at hq;have hop:a0p z.R y.depth j6=if (lexO y.text).2.2≠0 then .error ((lexO y.text).2.2,j6) else .ok (lexO y.text).1:=by
  unfold a0p;rw[hel];simp only[ne_eq,not_true_eq_false,if_false]
 refine jE ?_;refine b7o [] (.op 0 (.op 1 (.op 2 (.op 3 (.op 4 (.op 5 (.op 6 (.op 7 (.op 8 (.op 9 (.op 10 (.op 11 .nil)))))))))))) [12] _ [] D6 (by kernel_rfl) ?_;refine kA9 ?_;refine yG rfl (G1 a4K.und a4K.size a4K.posz (Ev.tmp rfl) (Ev.tmp rfl) Rr rfl (q:=j6) (by omega)) ?_;refine kA2 ?_;refine SR.nil rfl rfl ?_;refine pD (psR z j6) ?_;refine A0 Ef (E2 Et Et) (a2p hg hz j6 y.depth _ (by omega)) Lb (fun v hv hx=>?_) fun v29 h29 hr29=>?_
 ·obtain⟨e,j,hx1,rfl,rfl⟩:=hx
  rw[hop] at hx1;split at hx1
  ·rename_i hl
   cases hx1;rw[if_pos hl] at hq;exact fun a w ha hs=>key _ _ _ _ 0 p6 b2 b3 rfl rfl rfl hq a w ha (hs.sub Sb)
  ·cases hx1
 obtain⟨ts29,b29,a29,c29,hM29,rfl,hk29,rfl⟩:=hr29;refine kQ0 [2,3] ?_;refine A0 Ef Evs.nil (H8 _ _) Lb (fun v hv hx=>?_) fun v30 h30 hr30=>?_
 ·obtain⟨rfl,rfl⟩:=hx
  rw[hop] at hM29;split at hM29
  ·cases hM29
  ·rename_i hl
   rw[if_neg hl] at hq;exact fun a w ha hs=>key _ _ _ _ 0 p6 b2 b3 rfl rfl rfl hq a w ha (hs.sub Sb)
 exact hr30.elim;replace c16:=dF c16;rw[List.getElem?_eq_none (by omega)] at hq;dsimp only at hq;refine kQ0 [2,3] ?_;refine kQ3 [2,3] ?_;refine WC.ret (c3k (h':=psR z j6::(bl6++h)) (.inl rfl) rfl Tryz.call28 (b9w _ _ _ _) rfl (I1 S1 rfl rfl rfl Me rfl) (V5 b5l rfl rfl Me rfl) Vl Sb ?_);exact⟨p6,bl6,j6,0,rfl,rfl,hO6,.inl ⟨rfl,hq⟩⟩
abbrev c4A (m:View) (R:List Rw) (h:List Res) (v:Value) (h':List Res):Prop:=
 ∃ x bl,v=.tuple #[prV x,.int .i64 ((N0 R).2.1:Nat),.int .i64 (N0 R).2.2]/\stP x=(N0 R).1/\POk m bl x/\h'=bl++h
theorem b0n {m:View} (hg:Glob m) (ra:Option Addr) (rc:Nat) (R:List Rw) (h:List Res) (hr:Rd m [] ra R.length rc 3 (fl O6 R)) (ht:∀ x ∈ R,x.text.length<=140737488355328) :
 CT Tryz.prog 5 [.slice ra R.length rc] h m (fun v _ h'=>c4A m R h v h'):=by
 have hq:N0 R=if mayP R then (match a9O R with
  | .ok (x,_)=>(x,0,0)
  | .error (e,i)=>(prM 0 [] A2 [] [] D1 [] [] [] D2,i,e)) else (prM 0 [] A2 [] [] D1 [] [] [] D2,0,2):=rfl
 refine CT.body Tryz.call5 Tryz.func5 rfl Tryz.ntmps5 Lb rfl ?_;refine j0 ?_;refine xW fun b2=>?_
 refine kQ2 [0,2] ?_;refine kA1 ?_;refine xf (E1 Et) (Ly7.may_ct hg ra _ rc R _ (hr.mono Vl (List.nil_sublist _)) ht) ?_;refine kQ1 [0,2,8] ?_;refine wc (fun c8=>?_) fun c8=>?_
 have d8:mayP R=false:=by simpa using c8
 rw[if_neg (G6 d8)] at hq;refine kQ4 [2,3,4] ?_;refine WC.ret (a8e (h':=h) (.inl rfl) rfl (I1 S1 rfl rfl rfl Me rfl) (RV.tmp rfl) (RV.tmp rfl) Vl Sb ?_);exact⟨zP,[],by rw[hq];rfl,by rw[hq];exact R4 _,b5A _ _ (by decide),rfl⟩;have d8:mayP R=true:=by simpa using c8
 rw[if_pos d8] at hq;refine kQ0 [0,2] ?_;refine kA2 ?_;refine xX fun b12=>?_
 refine kQ1 [2,5] ?_;refine kA1 ?_;refine pD (psR ⟨b12,ra,rc,R⟩ 0) ?_;refine xg (E1 Et) (c2a hg (z:=⟨b12,ra,rc,R⟩) (Pok.of hr d8) _) ?_;rintro _ _ ⟨x15,bl15,j15,e15,rfl,rfl,hO15,hA15⟩;refine WL.perm ((Mv.perm).cons _) ?_;refine kQ5 [2,4,5] ?_;refine kQ2 [2,4,5,19] ?_;refine wc (fun c19=>?_) fun c19=>?_
 replace c19:=a1i c19;obtain⟨rfl,hA⟩:x15=zP/\a9O R=.error (e15,j15):=hA15.elim (fun q=>absurd q.1 c19) fun q=>q.2
 rw[hA] at hq;dsimp only at hq;refine jE ?_;refine WC.take (r:=.pt b2 _) De ?_;refine F2 [6] (.op 0 (.op 1 (.op 2 (.op 3 (.op 4 (.op 5 (.op 6 .nil))))))) [7,8] _ [_] D6 (fun _ _ _ _ _ h=>h) [5] (by kernel_rfl) ?_;refine yG rfl (PO.build S1 rfl rfl rfl EvP.nil rfl) ?_;refine kA5 ?_;refine SR.store rfl rfl rfl Et Et rfl rfl rfl rfl Up ?_;refine SR.nil rfl rfl ?_;refine kQ2 [2,3,4] ?_;refine WC.ret (a8e (h':=h) (.inl rfl) rfl (I1 S1 rfl rfl rfl Me rfl) (RV.tmp rfl) (RV.tmp rfl) Vl Sb ?_);exact⟨zP,[],by rw[hq];rfl,by rw[hq];exact R4 _,b5A _ _ (by decide),rfl⟩;replace c19:=a0U c19;have hA:a9O R=.ok (stP x15,j15):=hA15.elim (fun q=>q.2) fun q=>absurd c19 q.1
 rw[hA] at hq;dsimp only at hq;refine kQ0 [2] ?_;refine kQ4 [2,3,4] ?_;refine WC.ret (a8e (h':=bl15++h) (.inl rfl) rfl (I1 S1 rfl rfl rfl Me rfl) (RV.tmp rfl) (RV.tmp rfl) Vl Sb ?_);exact⟨x15,bl15,by rw[hq];rfl,by rw[hq],hO15,rfl⟩
end
section
open Go.Eng Go.Lx Go.Ty
def Pow (m : View) : Prop := ∀ h w, St m h w → Lib.TabIs Tryz.prog w "internal/strconv.uint64pow10" .u64 Lib.pow10Tab
theorem b9s (v:Int) (h:List Res) (m:View) (hp:Pow m) (hv:-9223372036854775808<=v/\v<=9223372036854775807):CT Tryz.prog 259 [.int .i64 v] h m (A3 h (str (Lib.itoa v))):=
 CT.ofGrow Tryz.call259 fun w st=>Tryz.strconv_Itoa v hv.1 hv.2 w (hp h w st)
theorem a7Q (t:Tok) (s:B) (h:List Res) (m:View) (hg:Glob m) (hs:s.length < 4294967281):CT Tryz.prog 224 [R1 t,str s] h m (A3 h (.bool (a9p t s))):=by
 refine CT.body Tryz.call224 Tryz.func224 rfl Tryz.ntmps224 Lb rfl ?_;refine j0 ?_;refine xX fun b2=>?_
 refine kQ1 [1,2] ?_;refine kA7 ?_;refine A7 (GU.t rfl rfl) (fun hc=>⟨Ef,(E2 (Eg hc) (Eg hc)),a0t hg s t.text hs _⟩) Lb ?_;refine kQ2 [4] ?_;refine wT h ?_;exact⟨rfl,rfl⟩
theorem a5K {s:B} {k:Nat} (h:k < s.length):(s.drop k).take (k+1 - k)=[s.getD k 0]:=by
 rw[List.drop_eq_getElem_cons h,Nat.add_sub_cancel_left,List.take_succ_cons,List.take_zero,List.getD_eq_getElem?_getD,List.getElem?_eq_getElem h];rfl
theorem c3l (v:Nat):IntKind.u8.wrap (v:Int)=((UInt8.ofNat v).toNat:Int):=by
 rw[UInt8.toNat_ofNat'];unfold IntKind.wrap;simp[IntKind.bits,IntKind.signed]
theorem c3T (v:Nat):a4B .i32 (v:Int) 4=((v / 16:Nat):Int):=by
 unfold a4B;rw[Int.fdiv_eq_ediv_of_nonneg _ (by decide)];simp[IntKind.bits]
theorem c0O {v:Nat} (h:v < 256):b4L .i32 (v:Int) 15=((v % 16:Nat):Int):=by
 have:∀ v,v < 256->b4L .i32 ((v:Nat):Int) 15=((v % 16:Nat):Int):=by decide +kernel
 exact this v h
theorem b6S {v:Nat} (h:v < 256):IntKind.i32.wrap ((v:Int)+1)=((v+1:Nat):Int):=by
 unfold IntKind.wrap;simp[IntKind.bits,IntKind.signed];omega
theorem b8c (v:Nat) (h:List Res) (m:View) (hv:v < 256):CT Tryz.prog 252 [.int .i32 v] h m (A3 h (str (a4s v))):=by
 have hI:=a3R (UInt8.ofNat v) c1q;have hI5:shI v<=4:=hI;refine CT.body Tryz.call252 Tryz.func252 rfl Tryz.ntmps252 Lb rfl ?_;refine kQ1 [0] ?_;refine kA1 ?_;refine xG (PO.conv a2o uu5 Et) ?_;refine WL.val (v':=.int .u8 ((UInt8.ofNat v).toNat:Int)) (congrArg (Value.int .u8) (c3l v)) ?_;refine xf (E2 Ek Et) (CT.argsE rfl (a7b c1q (UInt8.ofNat v) _ _)) ?_;refine WL.val (v':=.int .i64 (shI v)) rfl ?_;refine kQ1 [0,3] ?_;refine kQ3 [0,3,7] ?_;refine wc (fun c7=>?_) fun c7=>?_
 have d7:0<=shI v:=dT c7;obtain⟨k,hk⟩:∃ k:Nat,shI v=k:=⟨(shI v).toNat,by omega⟩;rw[hk];have hk5:k < b0c.length:=by show k < 5;omega
 refine kA3 ?_;refine WL.val (v':=.int .i64 ((k+1:Nat):Int)) (congrArg (Value.int .i64) (by omega)) ?_;refine xG (a0u (s:=b0c) (l:=k) (u:=k+1) uu9 Ek Et Et rfl rfl (by omega) (by omega)) ?_;refine WL.val (v':=str [b0c.getD k 0]) (congrArg str (a5K hk5)) ?_;refine xG (G3 Ek Et (by simp)) ?_;refine kQ1 [2] ?_;refine wT h ?_;exact⟨by unfold a4s;rw[c7,hk];rfl,rfl⟩;refine kQ7 [0,15] ?_;refine wc (fun c15=>?_) fun c15=>?_
 refine jE ?_;refine dS [] (.op 0 (.op 1 (.op 2 (.op 3 (.op 4 (.op 5 (.op 6 (.op 7 (.op 8 (.op 9 (.op 10 (.op 11 (.op 12 .nil))))))))))))) [13,14] D6 ?_;refine kA1 ?_;refine yG rfl (PO.shr Et Ek (by decide)) ?_;refine SR.val (v':=.int .i32 ((v / 16:Nat):Int)) (congrArg (Value.int .i32) (c3T v)) ?_;refine kA1 ?_;refine yG rfl (PO.shr Et Ek (by decide)) ?_;refine SR.val (v':=.int .i32 ((v / 16:Nat):Int)) (congrArg (Value.int .i32) (c3T v)) ?_;refine yG rfl (O0 Et Ek rfl) ?_;refine SR.val (v':=.int .i32 ((v / 16+1:Nat):Int)) (congrArg (Value.int .i32) (b6S (by omega))) ?_;refine yG rfl (a0u (s:=N4) (l:=v / 16) (u:=v / 16+1) uu9 Ek Et Et rfl rfl (by omega) (by show _<=16;omega)) ?_;refine SR.val (v':=str [N4.getD (v / 16) 0]) (congrArg str (a5K (by show _ < 16;omega))) ?_;refine yG rfl (G3 Ek Et (by simp)) ?_;refine kA1 ?_;refine yG rfl (O0 Et Ek rfl) ?_
 refine SR.val (v':=.int .i32 ((v % 16:Nat):Int)) (congrArg (Value.int .i32) (c0O hv)) ?_;refine kA1 ?_;refine yG rfl (O0 Et Ek rfl) ?_;refine SR.val (v':=.int .i32 ((v % 16:Nat):Int)) (congrArg (Value.int .i32) (c0O hv)) ?_;refine yG rfl (O0 Et Ek rfl) ?_;refine SR.val (v':=.int .i32 ((v % 16+1:Nat):Int)) (congrArg (Value.int .i32) (b6S (by omega))) ?_;refine yG rfl (a0u (s:=N4) (l:=v % 16) (u:=v % 16+1) uu9 Ek Et Et rfl rfl (by omega) (by show _<=16;omega)) ?_;refine SR.val (v':=str [N4.getD (v % 16) 0]) (congrArg str (a5K (by show _ < 16;omega))) ?_;refine SR.nil rfl rfl ?_;refine xG (G3 Et Et (by simp)) ?_;refine kQ1 [2] ?_;refine wT h ?_;exact⟨by unfold a4s;rw[c7,c15];rfl,rfl⟩;have hv2:v < 128:=by simp at c15;omega
 refine kQ0 [0] ?_;refine kA1 ?_;refine xG (b93 a2o uu9 Et rfl hv2) ?_;refine kQ1 [2] ?_;refine wT h ?_;exact⟨by unfold a4s;rw[c7,c15];rfl,rfl⟩
theorem c0A {u i:Nat} (hi:i < 8):a4B .u32 (u:Int) (4 * (i:Int))=((u / 16 ^ i:Nat):Int):=by
 unfold a4B;rw[show min (4 * (i:Int)).toNat IntKind.u32.bits=4 * i by show min _ 32=_;omega,Int.fdiv_eq_ediv_of_nonneg _ (Int.le_of_lt (Int.pow_pos (by decide)))];rw[show(16:Nat) ^ i=2 ^ (4 * i) by rw[Nat.pow_mul]];simp
theorem c06 (x:Nat) (hx:x < 4294967296):b4L .u32 (x:Int) 15=((x % 16:Nat):Int):=by
 have e:(BitVec.ofInt 32 (x:Int) &&& BitVec.ofInt 32 15).toNat=x % 16:=by
  rw[BitVec.toNat_and,BitVec.ofInt_natCast,BitVec.toNat_ofNat,Nat.mod_eq_of_lt (by omega),show(BitVec.ofInt 32 15).toNat=2 ^ 4 - 1 from rfl,Nat.and_two_pow_sub_one_eq_mod]
 unfold b4L;rw[show IntKind.u32.bits=32 from rfl,e,a7K (by omega)]
theorem c4h {k j:Nat} {x:UInt8} {r:B} (hj:j=k+1):(bv (35::(List.replicate (k+1) 0++r))).set (0+j * 1) (.int .u8 x.toNat)=bv (35::(List.replicate k 0++(x::r))):=by
 subst hj;rw[Nat.zero_add,Nat.mul_one];have e:∀ (k:Nat),(bv (List.replicate (k+1) 0++r)).set k (.int .u8 x.toNat)=bv (List.replicate k 0++(x::r)):=by
  intro k;induction k with
  | zero=>rfl
  | succ k ih=>
   show _::(bv (List.replicate (k+1) 0++r)).set k _=_;rw[ih];rfl
 show _::(bv (List.replicate (k+1) 0++r)).set k _=_;rw[e];rfl
theorem b8G (v:Int) (b:Bool) (h:List Res) (m:View) (hp:Pow m) (hv:-2147483648<=v/\v<=2147483647):CT Tryz.prog 251 [.int .i32 v,.bool b] h m (A3 h (str (a1j v b))):=by
 obtain⟨u,hu⟩:∃ u:Nat,IntKind.u32.wrap v=u:=⟨(IntKind.u32.wrap v).toNat,by
  have:0<=IntKind.u32.wrap v:=by unfold IntKind.wrap;simp[IntKind.bits,IntKind.signed];omega
  omega⟩
 have hu32:u < 4294967296:=by
  have:IntKind.u32.wrap v < 4294967296:=by unfold IntKind.wrap;simp[IntKind.bits,IntKind.signed];omega
  omega
 refine CT.body Tryz.call251 Tryz.func251 rfl Tryz.ntmps251 Lb rfl ?_;refine kQ1 [0,1] ?_;refine kQ2 [0,8] ?_;refine wc (fun c8=>?_) fun c8=>?_
 have d8:b=false:=by simpa using c8
 subst d8;refine kA1 ?_;refine xG (PO.conv a2o uu3 Et) ?_;refine WL.val (v':=.int .i64 v) (congrArg (Value.int .i64) (by unfold IntKind.wrap;simp[IntKind.bits,IntKind.signed];omega)) ?_;refine xf (E1 Et) (b9s v _ _ hp (by omega)) ?_;refine kQ1 [4] ?_;refine wT h ?_;exact⟨rfl,rfl⟩;have d8:b=true:=by simpa using c8
 subst d8;refine kQ0 [0] ?_;refine xG (a3d b3K rfl rfl rfl Eb (by exact rfl)) ?_;refine xW fun b5=>?_
 refine kQ1 [0,5] ?_;refine kQ1 [0,5,13] ?_;refine B0 [0,5] rfl (fun μ F' h'=>∃ i:Nat,(i<=8)/\8 - i=μ/\F'=[(13,.int .i64 i)]/\.pt b5 (.cells (bv (35::(List.replicate (8 - i) 0++a06 u i))).toArray 305 (0,0))::h=h') (8 - 0) [(13,.int .i64 0)] (h0:=.pt b5 (.cells (bv (35::(List.replicate (8 - 0) 0++a06 u 0))).toArray 305 (0,0))::h) ?_ Sb ⟨0,by omega,rfl,rfl,rfl⟩ ?_;exact Su;rintro _ _ _ ⟨i,hJ,rfl,rfl,rfl⟩;refine B1 rfl ?_;refine kQ1 [0,5,13,14] ?_;refine wc (fun c14=>?_) fun c14=>?_
 replace c14:=dT c14;have hd:u / 16 ^ i % 16 < 16:=Nat.mod_lt _ (by decide);obtain⟨x,hx⟩:=A5 (l:=N4) (k:=u / 16 ^ i % 16) hd;have hx':N4.getD (u / 16 ^ i % 16) 0=x:=by rw[List.getD_eq_getElem?_getD,hx];rfl
 have hle:u / 16 ^ i < 4294967296:=Nat.lt_of_le_of_lt (Nat.div_le_self _ _) hu32;refine kQ0 [0,5,13] ?_;refine kQ2 [0,5,6,13] ?_;refine kA1 ?_;refine xG (U0 Ek Et (by omega)) ?_;refine kA1 ?_;refine xG (PO.conv a2o b0w Et) ?_;refine WL.val (v':=.int .u32 (u:Int)) (congrArg (Value.int .u32) hu) ?_;refine kA1 ?_;refine xG (a9Q Ek Et (by omega)) ?_;refine xG (PO.shr Et Et (by omega)) ?_;refine WL.val (v':=.int .u32 ((u / 16 ^ i:Nat):Int)) (congrArg (Value.int .u32) (c0A (by omega))) ?_;refine kA1 ?_;refine WL.val (v':=.int .u32 ((u / 16 ^ i % 16:Nat):Int)) (congrArg (Value.int .u32) (c06 _ hle)) ?_;refine xG (I7 (l:=N4) (q:=u / 16 ^ i % 16) uu9 Ek Et rfl hx) ?_;refine xG (b3X (sz:=1) b3K rfl Et Et (q:=8 - i) (by omega) (by omega)) ?_;refine b5g (cs:=bv (35::(List.replicate (8 - i) 0++a06 u i))) rfl Et Et rfl rfl (by rw[a9g];simp[a4i];omega) Up ?_
 refine c2E (cs:=(bv (35::(List.replicate (8 - i) 0++a06 u i))).set (0+(8 - i) * 1) _) (cs':=bv (35::(List.replicate (8 - (i+1)) 0++a06 u (i+1)))) (by rw[b2z,hx',show 8 - i=8 - (i+1)+1 by omega];exact c4h rfl) Up ?_;refine kQ0 [0,5,13] ?_;refine kA2 ?_;refine WL.nil (A4 (8 - (i+1)) [(13,.int .i64 (i+1))] (h'':=.pt b5 (.cells (bv (35::(List.replicate (8 - (i+1)) 0++a06 u (i+1)))).toArray 305 (0,0))::h) (by omega) ?_ Su Sb ⟨i+1,by omega,rfl,rfl,rfl⟩);exact Su;replace c14:=dF c14;have e:i=8:=by omega
 subst e;refine kQ0 [5] ?_;refine xG (b0t b3K rfl (by decide) Et) ?_;refine xG (b0S (bs:=35::a06 u 8) b7P uu5 uu9 Et (Rd.ofPt rfl (by decide) (List.Mem.head _))) ?_;refine kQ1 [4] ?_;refine wT h ?_;exact⟨by unfold a1j;rw[hu];rfl,rfl⟩
end
section
open Go.Eng Go.Lx Go.Ty
theorem b9a (t:Tok) (h:List Res) (m:View) (hp:Pow m) (hn:-2147483648<=t.n/\t.n<=2147483647) (hk:J4 t=true):CT Tryz.prog 226 [R1 t] h m (A3 h (str (a0A t))):=by
 refine CT.body Tryz.call226 Tryz.func226 rfl Tryz.ntmps226 Lb rfl ?_;refine j0 ?_;refine xX fun b1=>?_
 refine kQ1 [1] ?_;refine kQ2 [1,4] ?_;refine kQ2 [1,4,5] ?_;refine wc (fun c5=>?_) fun c5=>?_
 refine kA5 ?_;refine xf (E2 Et Et) (b8G t.n _ _ _ hp hn) ?_;refine kQ1 [2] ?_;refine wT h ?_;exact⟨by unfold a0A;rw[c5];rfl,rfl⟩;refine kQ2 [1,13] ?_;refine wc (fun c13=>?_) fun c13=>?_
 have hb:0<=t.n/\t.n < 256:=by
  have e:t.kind=4:=eq_of_beq c13;unfold J4 at hk;rw[e] at hk;simp at hk;omega
 have hsl:=a8B t.n.toNat;refine kA2 ?_;refine WL.val (v':=.int .i32 (t.n.toNat:Int)) (congrArg (Value.int .i32) (by omega)) ?_;refine xf (E1 Et) (b8c t.n.toNat _ _ (by omega)) ?_;refine xG (G3 Ek Et (by simp;omega)) ?_;refine xG (G3 Et Ek (by simp;omega)) ?_;refine kQ1 [2] ?_;refine wT h ?_;exact⟨by unfold a0A;rw[c5,c13];rfl,rfl⟩;refine kQ0 [1] ?_;refine kQ3 [2] ?_;refine wT h ?_;exact⟨by unfold a0A;rw[c5,c13];rfl,rfl⟩
def TkL (l:List Tok):Prop:=∀ x,x ∈ l->(-2147483648<=x.n/\x.n<=2147483647)/\x.text.length<=140737488355328
theorem b8V {l:List Tok} {i:Nat} {x:Tok} (hx:l[i]?=some x) (h:J4 x=false):l.any (fun t=>!J4 t)=true:=
 List.any_eq_true.2 ⟨x,List.mem_of_getElem? hx,by rw[h];rfl⟩
theorem b8L {l:List Tok} {i:Nat} {x:Tok} (hx:l[i]?=some x) (h:J4 x=true) (hJ:(l.take i).any (fun t=>!J4 t)=false):(l.take (i+1)).any (fun t=>!J4 t)=false:=by
 rw[List.take_add_one,hx,List.any_append,hJ];simp[h]
theorem c1x {l:List Tok} {i:Nat} (hi:i < l.length) (x:Tok):a8g (a2P none (l.take i)) x=(decide ((i:Int) > 0)&&gap (l.getD (i - 1) zeroK) x):=by
 cases i with
 | zero=>rfl
 | succ j=>
  have hj:j < l.length:=by omega
  rw[a6L l j none l[j] (List.getElem?_eq_getElem hj),Nat.add_sub_cancel,List.getD_eq_getElem?_getD,List.getElem?_eq_getElem hj];have:decide (((j+1:Nat):Int) > 0)=true:=by simp
  rw[this];rfl
theorem b5w (a:Option Addr) (k c:Nat) (l:List Tok) (h:List Res) (m:View) (hg:Glob m) (hp:Pow m) (hs:Rd m h a k c 4 (fl B2 l)) (hT:TkL l) :
 CT Tryz.prog 172 [.slice a k c] h m (A3 h (.tuple #[str (textO l).1,.int .i64 (textO l).2])):=by
 have hl:=hs.lenF B4 (by decide);subst hl;have hmx:=hs.mx;have hle:=hs.le;have hq:∀ n:Nat,n < l.length->l[n]?=some (l.getD n zeroK):=fun n hn=>by rw[List.getD_eq_getElem?_getD,List.getElem?_eq_getElem hn];rfl
 refine CT.body Tryz.call172 Tryz.func172 rfl Tryz.ntmps172 Lb rfl ?_;refine kQ2 [0] ?_;refine xG (PO.assign Ef) ?_;refine kQ0 [0,4] ?_;refine kQ3 [0,4,10,11,12] ?_;refine B0 [0,4,10,11] rfl (fun μ F' h'=>∃ i:Nat,(i<=l.length/\(l.take i).any (fun t=>!J4 t)=false)/\l.length - i=μ/\F'=[(12,.int .i64 i)]/\h=h') (l.length - 0) [(12,.int .i64 0)] (h0:=h) ?_ Sb ⟨0,⟨by omega,rfl⟩,rfl,rfl,rfl⟩ ?_;exact Su;rintro _ _ _ ⟨i,⟨hi,hJ⟩,rfl,rfl,rfl⟩;refine B1 rfl ?_;refine kQ1 [0,4,10,11,12,13] ?_;refine wc (fun c13=>?_) fun c13=>?_
 replace c13:=dT c13;obtain⟨x,hx⟩:=A5 (l:=l) (k:=i) (by omega);have hxT:=hT x (List.mem_of_getElem? hx);refine kQ0 [0,4,10,11,12] ?_;refine kA2 ?_;refine xW fun b6=>?_
 refine kQ1 [0,4,6,10,11,12] ?_;refine kA1 ?_;refine xf (E1 Et) (b0D x _ _ hg hxT.2) ?_;refine kQ1 [0,4,10,11,12,18] ?_;refine wc (fun c18=>?_) fun c18=>?_
 have d18:J4 x=false:=by simpa using c18
 have hO:=b5I (b8V hx d18);refine kQ2 [2,3] ?_;refine w2 h ?_;exact⟨by rw[hO],rfl⟩;have d18:J4 x=true:=by simpa using c18
 have hJ2:=b8L hx d18 hJ;refine kQ0 [0,4,10,11,12] ?_;refine kA2 ?_;refine WL.nil (A4 (l.length - (i+1)) [(12,.int .i64 (i+1))] (h'':=h) (by omega) ?_ Su Sb ⟨i+1,⟨by omega,hJ2⟩,rfl,rfl,rfl⟩);exact Su;replace c13:=dF c13;rw[List.take_of_length_le (by omega)] at hJ;have hall:∀ x,x ∈ l->J4 x=true:=fun x hx=>by
  have:=List.any_eq_false.1 hJ x hx;simpa using this
 refine kQ0 [0,4] ?_;refine kQ1 [0,4,7] ?_;refine kQ3 [0,4,7,20,21,22] ?_;refine B0 [0,4,20,21] rfl (fun μ F' h'=>∃ i:Nat,∃ s:B,((i<=l.length/\s.length<=256)/\s=textL none (l.take i))/\l.length - i=μ/\F'=[(7,str s),(22,.int .i64 i)]/\h=h') (l.length - 0) [(7,str ([])),(22,.int .i64 0)] (h0:=h) ?_ Sb ⟨0,[],⟨⟨by omega,by decide⟩,rfl⟩,rfl,rfl,rfl⟩ ?_;exact Su;rintro _ _ _ ⟨i,s,⟨⟨hi,hs256⟩,hS⟩,rfl,rfl,rfl⟩;refine B1 rfl ?_;refine kQ1 [0,4,7,20,21,22,23] ?_;refine wc (fun c23=>?_) fun c23=>?_
 replace c23:=dT c23;obtain⟨x,hx⟩:=A5 (l:=l) (k:=i) (by omega);have hxT:=hT x (List.mem_of_getElem? hx);have hxK:=hall x (List.mem_of_getElem? hx);have hgap:=c1x (l:=l) (i:=i) (by omega) x;have hsn:=b2K none hx;have hxl:=b5b hxT.1 hxT.2;generalize hy:l.getD (i - 1) zeroK=y at hgap;have hqy:0 < i->l[i - 1]?=some y:=fun h0=>by rw[hq (i - 1) (by omega),hy]
 refine kQ0 [0,4,7,20,21,22] ?_;refine kA3 ?_;refine xW fun b9=>?_
 refine kQ2 [0,4,7,8,9,20,21,22] ?_;refine kA4 ?_;refine zG (fun _=>pA H2) ?_;refine A7 (GU.t rfl rfl) (fun hc=>⟨(S7 rfl hc),(E2 (S7 rfl hc) Ek),a7Q x b7v _ _ hg (by decide)⟩) Lb ?_;refine kA6 ?_;refine F6 (GU.t rfl rfl) (fun hc=>U0 (Eg hc) Ek (by first | omega | (simp at hc;omega))) Lb ?_;refine F6 (GU.t rfl rfl) (fun hc=>G1 A6.und A6.size A6.posz (Eg hc) (Eg hc) Rr (q:=i - 1) (by simp at hc;omega) (by simp at hc;omega)) Lb ?_;refine F6 (GU.t rfl rfl) (fun hc=>a3E H2 rfl rfl B4 Rr (Eg hc) (hqy (by simp at hc;omega)) rfl rfl (Nat.succ_pos _)) Lb ?_;refine A7 (GU.t rfl rfl) (fun hc=>⟨(S7 rfl hc),(E2 (S7 rfl hc) Ek),a7Q y b3n _ _ hg (by decide)⟩) Lb ?_;refine kA5 ?_;refine F6 (GU.t rfl rfl) (fun hc=>U0 (Eg hc) Ek (by first | omega | (simp at hc;omega))) Lb ?_
 refine F6 (GU.t rfl rfl) (fun hc=>G1 A6.und A6.size A6.posz (Eg hc) (Eg hc) Rr (q:=i - 1) (by simp at hc;omega) (by simp at hc;omega)) Lb ?_;refine F6 (GU.t rfl rfl) (fun hc=>H4 H2 rfl (Nat.ne_of_beq_eq_false rfl) B4 (Nat.succ_pos _) Rr (hqy (by simp at hc;omega)) (Eg hc)) Lb ?_;refine F6 (GU.t rfl rfl) (fun hc=>H5 a5P rfl B4 Rr (Eg hc) (hqy (by simp at hc;omega)) rfl) Lb ?_;refine kA3 ?_;refine zG (fun _=>pA H2) ?_;refine A7 (a3p rfl rfl) (fun hc=>⟨(S7 rfl hc),(E2 (S7 rfl hc) Ek),a7Q x b3n _ _ hg (by decide)⟩) Lb ?_;refine kA1 ?_;refine zG (fun hc=>a2y hc rfl rfl) ?_;refine kP1 [0,4,7,9,20,21,22,59] ?_;refine H9 KKh [0,4,9,20,21,22] rfl (fun F' h'=>∃ u:B,(u=s++sep (a8g (a2P none (l.take i)) x)/\u.length<=257)/\F'=[(7,str u)]/\.pt b9 (.cells (B2 x).toArray 120 (0,0))::h=h') ?_ ?_;refine jE ?_;refine wc (fun c59=>?_) fun c59=>?_
 have d59:a8g (a2P none (l.take i)) x=true:=by rw[hgap];simpa [gap,Bool.and_assoc] using c59
 refine kA1 ?_;refine xG (G3 Et Ek (by simp;omega)) ?_;refine kA1 ?_;refine WL.nil (C8 [(7,str (s++[32]))] (h'':=.pt b9 (.cells (B2 x).toArray 120 (0,0))::h) ?_ Su Sb ⟨s++[32],⟨by rw[d59];rfl,by rw[List.length_append,List.length_singleton];omega⟩,rfl,rfl⟩);exact Su;have d59:a8g (a2P none (l.take i)) x=false:=by rw[hgap];simpa [gap,Bool.and_assoc] using c59
 refine WC.skip (C8 [(7,str s)] (h'':=.pt b9 (.cells (B2 x).toArray 120 (0,0))::h) ?_ Su Sb ⟨s,⟨by rw[d59];exact(List.append_nil s).symm,by omega⟩,rfl,rfl⟩);exact Su;rintro _ _ ⟨u,⟨hu,hul⟩,rfl,rfl⟩;refine B1 rfl ?_;refine kA2 ?_;refine xf (E1 Et) (b9a x _ _ hp hxT.1 hxK) ?_;refine xG (G3 Et Et (by omega)) ?_;refine kQ1 [0,4,7,20,21,22] ?_;refine kA1 ?_;refine xG (L2 uu9 Et) ?_;refine kQ1 [0,4,7,20,21,22,68] ?_;refine wc (fun c68=>?_) fun c68=>?_
 have hlong:256 < (u++a0A x).length:=by have:=of_decide_eq_true c68;omega
 have hO:=b2S hJ (i:=i+1) (by rw[hsn,<- hS,<- List.append_assoc,<- hu];exact hlong);refine kQ2 [2,3] ?_;refine w2 h ?_;exact⟨by rw[hO],rfl⟩;have hshort:(u++a0A x).length<=256:=by have:=of_decide_eq_false c68;omega
 refine kQ0 [0,4,7,20,21,22] ?_;refine kA2 ?_;refine WL.nil (A4 (l.length - (i+1)) [(7,str (u++a0A x)),(22,.int .i64 (i+1))] (h'':=h) (by omega) ?_ Su Sb ⟨i+1,u++a0A x,⟨⟨by omega,hshort⟩,by rw[hsn,<- hS,<- List.append_assoc,<- hu]⟩,rfl,rfl,rfl⟩);exact Su;replace c23:=dF c23;rw[List.take_of_length_le (by omega)] at hS;have hO:=b71 hJ (by rw[<- hS];exact hs256);refine kQ0 [7] ?_;refine kQ3 [2,3] ?_;refine w2 h ?_;exact⟨by rw[hO,hS],rfl⟩
end
section
open Go.Eng Go.Pc Go.Sx Go
open Go.Xp hiding B D5
open Go.Ty (Ty Vr Tok eqT tyV I4 B2 B4 R1 zeroK L7 D3)
open Go.Lx (encB C4 textO)
open Go.Ly (Rw O6 G8)
abbrev OwT (h:List Res) (l:List Tok) (v:Value) (h':List Res):Prop:=b4N B2 120 4 h l v h'
theorem a1o (s:B) (h:List Res) (m:View):CT Tryz.prog 161 [str s] h m (fun v _ h'=>OwT h [N6 s] v h'):=by
 refine CT.body Tryz.call161 Tryz.func161 rfl Tryz.ntmps161 Lb rfl ?_;refine kQ1 [0] ?_;refine kA2 ?_;refine xY A6 Eb fun b5=>?_
 refine a3h (k:=1) (sz:=4) (cs:=fl B2 [N6 s]) rfl (by decide) Up ?_;refine kQ1 [2] ?_;refine wT (.row (.slice (some ⟨b5,0,none⟩) 1 1) 120 4 1 (fl B2 [N6 s])::h) ?_;exact⟨_,_,1,rfl,rfl,rfl⟩
theorem C2 {m:View} (hg:Glob m) (a:Option Addr) (k c:Nat) (l:List B) (h:List Res) (hs:Rd m h a k c 1 (fl encB l)) (hl:k<=1000) (hw:∀ x ∈ l,x.length<=140737488355328) :
 CT Tryz.prog 107 [.slice a k c] h m (fun v _ h'=>OwT h (l.map A1) v h'):=by
 have hlen:=hs.lenF C4 (by decide);subst hlen;refine CT.body Tryz.call107 Tryz.func107 rfl Tryz.ntmps107 Lb rfl ?_;refine kQ1 [0] ?_;refine WL.addNil 120 4 ?_;refine kQ1 [0,3] ?_;refine kQ3 [3,6,7,8] ?_;refine B0 [6,7] rfl (fun μ F' h'=>∃ a3:Option Addr,∃ c3:Nat,∃ r:List Tok,∃ j:Nat,((j<=l.length/\r.length=j)/\r=(l.take j).map A1)/\l.length - j=μ/\F'=[(3,.slice a3 r.length c3),(8,.int .i64 j)]/\.row (.slice a3 r.length c3) 120 4 r.length (fl B2 r)::h=h') (l.length - 0) [(3,.slice none ([]).length 0),(8,.int .i64 0)] (h0:=.row (.slice none ([]).length 0) 120 4 ([]).length (fl B2 ([]))::h) ?_ Sb ⟨none,0,[],0,⟨⟨by omega,rfl⟩,rfl⟩,rfl,rfl,rfl⟩ ?_;exact Su;rintro _ _ _ ⟨a3,c3,r,j,⟨⟨hj,hr⟩,hJ⟩,rfl,rfl,rfl⟩;refine B1 rfl ?_;refine kQ1 [3,6,7,8,9] ?_;refine wc (fun c9=>?_) fun c9=>?_
 replace c9:=dT c9;obtain⟨s,hx⟩:=A5 (l:=l) (k:=j) (by omega);have htk:(l.take (j+1)).map A1=(l.take j).map A1++[A1 s]:=by rw[a1w hx,List.map_append];rfl
 have hsw:=hw s (List.mem_of_getElem? hx);refine kQ0 [3,6,7,8] ?_;refine kQ3 [3,5,6,7,8] ?_;refine kA1 ?_;refine xf (E1 Et) (a5H s _ _ hg hsw) ?_;refine kQ0 [3,5,6,7,8,13] ?_;refine wc (fun c13=>?_) fun c13=>?_
 have hws:A1 s=⟨2,0,s,0⟩:=by unfold A1;rw[if_pos c13]
 have hln:(r++[A1 s]).length=r.length+1:=List.length_append;refine kA2 ?_;refine xf (E1 Et) (J5 _ _ _) ?_;refine xY A6 Eb fun b17=>?_
 rw[<- hws];refine xD A6 (Ev.tmp rfl) (Ev.tmp rfl) (show r.length+1=(r++[A1 s]).length by simp) (E9 (enc:=B2) _ (A1 s)) fun a18 c18=>?_
 refine kQ1 [3,6,7,8] ?_;refine kA2 ?_;refine WL.nil (A4 (l.length - (j+1)) [(3,.slice a18 (r++[A1 s]).length c18),(8,.int .i64 (j+1))] (h'':=.row (.slice a18 (r++[A1 s]).length c18) 120 4 (r++[A1 s]).length (fl B2 (r++[A1 s]))::h) (by omega) ?_ Su Sb ⟨a18,c18,r++[A1 s],j+1,⟨⟨by omega,by omega⟩,by rw[htk,hJ]⟩,rfl,rfl,rfl⟩);exact Su;have hws:A1 s=⟨5,0,s,0⟩:=by unfold A1;rw[if_neg (G6 c13)]
 have hln:(r++[A1 s]).length=r.length+1:=List.length_append;refine kA2 ?_;refine xf (E1 Et) (G5 _ _ _) ?_;refine xY A6 Eb fun b22=>?_
 rw[<- hws];refine xD A6 (Ev.tmp rfl) (Ev.tmp rfl) (show r.length+1=(r++[A1 s]).length by simp) (E9 (enc:=B2) _ (A1 s)) fun a23 c23=>?_
 refine kQ1 [3,6,7,8] ?_;refine kA2 ?_;refine WL.nil (A4 (l.length - (j+1)) [(3,.slice a23 (r++[A1 s]).length c23),(8,.int .i64 (j+1))] (h'':=.row (.slice a23 (r++[A1 s]).length c23) 120 4 (r++[A1 s]).length (fl B2 (r++[A1 s]))::h) (by omega) ?_ Su Sb ⟨a23,c23,r++[A1 s],j+1,⟨⟨by omega,by omega⟩,by rw[htk,hJ]⟩,rfl,rfl,rfl⟩);exact Su;replace c9:=dF c9;rw[List.take_of_length_le (by omega)] at hJ;subst hJ;refine kQ0 [3] ?_;refine kQ2 [2] ?_;refine wT (.row (.slice a3 (l.map A1).length c3) 120 4 (l.map A1).length (fl B2 (l.map A1))::h) ?_;exact⟨_,_,_,rfl,rfl,rfl⟩
theorem I8 {m:View} (hg:Glob m) (e:Ex) (h:List Res) (hE:EOk m h e):CT Tryz.prog 163 [exV e] h m (fun v _ h'=>OwT h (D8 e) v h'):=by
 refine CT.body Tryz.call163 Tryz.func163 rfl Tryz.ntmps163 Lb rfl ?_;refine j0 ?_;refine xX fun b1=>?_
 refine kQ1 [1] ?_;refine kA1 ?_;refine xg (E1 Et) (b9D hg e _ (hE.t.mono Sb) hE.w) ?_;rintro _ _ ⟨a7,c7,rfl,rfl⟩;refine kQ5 [3] ?_;refine kQ2 [2] ?_;refine wT (.row (.slice a7 (D8 e).length c7) 120 4 (D8 e).length (fl B2 (D8 e))::h) ?_;exact⟨_,_,_,rfl,rfl,rfl⟩
theorem a0N {m:View} (hg:Glob m) (t:Ty) (h:List Res) (hs:t.proto.length<=9223372036854775807):CT Tryz.prog 162 [tyV t] h m (fun v _ h'=>OwT h (K1 t) v h'):=by
 refine CT.body Tryz.call162 Tryz.func162 rfl Tryz.ntmps162 Lb rfl ?_;refine j0 ?_;refine xX fun b1=>?_
 refine kQ1 [1] ?_;refine kA1 ?_;refine xg (E1 Et) (Ty9.tokens_ct t _ _ hg hs) ?_;rintro _ _ ⟨a7,c7,rfl,rfl⟩;refine kQ5 [3] ?_;refine kQ2 [2] ?_;refine wT (.row (.slice a7 (K1 t).length c7) 120 4 (K1 t).length (fl B2 (K1 t))::h) ?_;exact⟨_,_,_,rfl,rfl,rfl⟩
theorem b1h {m:View} (hg:Glob m) (k:Int) (h:List Res):CT Tryz.prog 167 [.int .u8 k] h m (fun v _ h'=>OwT h (a0j k) v h'):=by
 refine CT.body Tryz.call167 Tryz.func167 rfl Tryz.ntmps167 Lb rfl ?_;refine kQ1 [0] ?_;refine kA2 ?_;refine xg (E1 Et) (a0N hg ⟨k,0,0,[]⟩ _ (Nat.zero_le _)) ?_;rintro _ _ ⟨a5,c5,k5,hk5,rfl,rfl⟩;refine kQ1 [2] ?_;refine wT (.row (.slice a5 k5 c5) 120 4 k5 (fl B2 (a0j k))::h) ?_;exact⟨_,_,_,hk5,rfl,rfl⟩
theorem a2f {m:View} (q:FuncId) (f:Ex->List Tok) (sep:B) (a:Option Addr) (k c:Nat) (l:List Ex) (h:List Res) (hs:Rd m h a k c 6 (fl exE l)) (hk:k<=3000) (hb:∀ x ∈ l,(f x).length<=3000)
 (ht:∀ x ∈ l,∀ h',h.Sublist h'->CT Tryz.prog q [exV x] h' m (fun v _ h2=>OwT h' (f x) v h2)) :
 CT Tryz.prog 171 [.slice a k c,str sep,.func (.func q) #[] #[]] h m (fun v _ h'=>OwT h (C9 sep f l) v h'):=by
 have hlen:=hs.lenF a3X (by decide);subst hlen;refine CT.body Tryz.call171 Tryz.func171 rfl Tryz.ntmps171 Lb rfl ?_;refine kQ1 [0,1,2] ?_;refine WL.addNil 120 4 ?_;refine kQ1 [0,1,2,7] ?_;refine kQ3 [1,2,7,10,11,12] ?_;refine B0 [1,2,10,11] rfl (fun μ F' h'=>∃ a7:Option Addr,∃ c7:Nat,∃ r:List Tok,∃ j:Nat,((j<=l.length/\r.length<=j * 3001)/\r=C9 sep f (l.take j))/\l.length - j=μ/\F'=[(7,.slice a7 r.length c7),(12,.int .i64 j)]/\.row (.slice a7 r.length c7) 120 4 r.length (fl B2 r)::h=h') (l.length - 0) [(7,.slice none ([]).length 0),(12,.int .i64 0)] (h0:=.row (.slice none ([]).length 0) 120 4 ([]).length (fl B2 ([]))::h) ?_ Sb ⟨none,0,[],0,⟨⟨by omega,by simp⟩,rfl⟩,rfl,rfl,rfl⟩ ?_;exact Su;rintro _ _ _ ⟨a7,c7,r,j,⟨⟨hj,hr⟩,hJ⟩,rfl,rfl,rfl⟩;refine B1 rfl ?_;refine kQ1 [1,2,7,10,11,12,13] ?_;refine wc (fun c13=>?_) fun c13=>?_
 replace c13:=dT c13;obtain⟨x,hx⟩:=A5 (l:=l) (k:=j) (by omega);have hxm:=List.mem_of_getElem? hx;have hfx:=hb x hxm;have htk:=a1w hx;have h3:j * 3001<=9000000:=by omega
 refine kQ0 [1,2,7,10,11,12] ?_;refine kA3 ?_;refine xW fun b9=>?_
 refine kQ2 [1,2,7,8,9,10,11,12] ?_;refine kP2 [1,2,7,9,10,11,12,18] ?_;refine H9 KKh [1,2,9,10,11,12] rfl (fun F' h'=>∃ a8:Option Addr,∃ c8:Nat,∃ r2:List Tok,(r2.length<=r.length+1/\r2++f x=C9 sep f (l.take (j+1)))/\F'=[(7,.slice a8 r2.length c8)]/\.pt b9 (.cells (exE x).toArray 29 (0,0))::.row (.slice a8 r2.length c8) 120 4 r2.length (fl B2 r2)::h=h') ?_ ?_;refine jE ?_;refine wc (fun c18=>?_) fun c18=>?_
 replace c18:=dT c18;have hln:(r++[(⟨5,0,sep,0⟩:Tok)]).length=r.length+1:=List.length_append;refine kA2 ?_;refine xf (E1 Et) (G5 _ _ _) ?_;refine xY A6 Eb fun b22=>?_
 refine xD A6 (Ev.tmp rfl) (Ev.tmp rfl) (show r.length+1=(r++[(⟨5,0,sep,0⟩:Tok)]).length by simp) (E9 (enc:=B2) _ (⟨5,0,sep,0⟩)) fun a23 c23=>?_
 refine kA1 ?_;refine WL.nil (C8 [(7,.slice a23 (r++[(⟨5,0,sep,0⟩:Tok)]).length c23)] (h'':=.pt b9 (.cells (exE x).toArray 29 (0,0))::.row (.slice a23 (r++[(⟨5,0,sep,0⟩:Tok)]).length c23) 120 4 (r++[(⟨5,0,sep,0⟩:Tok)]).length (fl B2 (r++[(⟨5,0,sep,0⟩:Tok)]))::h) ?_ Su Sb ⟨a23,c23,r++[(⟨5,0,sep,0⟩:Tok)],⟨by omega,by rw[htk,a1g sep f _ x (by intro q;have:=congrArg List.length q;rw[List.length_take] at this;simp only[List.length_nil] at this;omega),<- hJ,List.append_assoc];rfl⟩,rfl,rfl⟩);exact Su;replace c18:=dF c18;have hj0:j=0:=by omega
 subst hj0;have hr0:r=[]:=hJ;subst hr0;refine WC.skip (C8 [(7,.slice a7 ([]).length c7)] (h'':=.pt b9 (.cells (exE x).toArray 29 (0,0))::.row (.slice a7 ([]).length c7) 120 4 ([]).length (fl B2 ([]))::h) ?_ Su Sb ⟨a7,c7,[],⟨by simp,by rw[htk];rfl⟩,rfl,rfl⟩);exact Su;rintro _ _ ⟨a8,c8,r2,⟨hr2,hJ2⟩,rfl,rfl⟩;refine B1 rfl ?_;refine kA3 ?_;refine F3 (Ev.tmp rfl) (E1 (Ev.tmp rfl)) (ht x hxm _ Sb) Lb ?_;rintro _ _ ⟨a27,c27,k27,e27,rfl,rfl⟩;refine kR a27 fun p27 q27 r27=>?_
 have hln:(r2++f x).length=r2.length+k27:=by rw[List.length_append,e27]
 refine xD A6 (Ev.tmp rfl) (Ev.tmp rfl) (show r2.length+k27=(r2++f x).length from hln.symm) (a2U (enc:=B2) r2 (f x)).symm fun a28 c28=>?_
 refine kQ1 [1,2,7,10,11,12] ?_;refine kA2 ?_;refine WL.nil (A4 (l.length - (j+1)) [(7,.slice a28 (r2++f x).length c28),(12,.int .i64 (j+1))] (h'':=.row (.slice a28 (r2++f x).length c28) 120 4 (r2++f x).length (fl B2 (r2++f x))::h) (by omega) ?_ Su Sb ⟨a28,c28,r2++f x,j+1,⟨⟨by omega,by omega⟩,hJ2⟩,rfl,rfl,rfl⟩);exact Su;replace c13:=dF c13;rw[List.take_of_length_le (by omega)] at hJ;subst hJ;refine kQ0 [7] ?_;refine kQ2 [6] ?_;refine wT (.row (.slice a7 (C9 sep f l).length c7) 120 4 (C9 sep f l).length (fl B2 (C9 sep f l))::h) ?_;exact⟨_,_,_,rfl,rfl,rfl⟩
theorem b5y {m:View} (q:FuncId) (f:Fo->List Tok) (sep:B) (a:Option Addr) (k c:Nat) (l:List Fo) (h:List Res) (hs:Rd m h a k c 6 (fl foE l)) (hk:k<=3000) (hb:∀ x ∈ l,(f x).length<=3000)
 (ht:∀ x ∈ l,∀ h',h.Sublist h'->CT Tryz.prog q [foV x] h' m (fun v _ h2=>OwT h' (f x) v h2)) :
 CT Tryz.prog 164 [.slice a k c,str sep,.func (.func q) #[] #[]] h m (fun v _ h'=>OwT h (C9 sep f l) v h'):=by
 have hlen:=hs.lenF a3G (by decide);subst hlen;refine CT.body Tryz.call164 Tryz.func164 rfl Tryz.ntmps164 Lb rfl ?_;refine kQ1 [0,1,2] ?_;refine WL.addNil 120 4 ?_;refine kQ1 [0,1,2,7] ?_;refine kQ3 [1,2,7,10,11,12] ?_;refine B0 [1,2,10,11] rfl (fun μ F' h'=>∃ a7:Option Addr,∃ c7:Nat,∃ r:List Tok,∃ j:Nat,((j<=l.length/\r.length<=j * 3001)/\r=C9 sep f (l.take j))/\l.length - j=μ/\F'=[(7,.slice a7 r.length c7),(12,.int .i64 j)]/\.row (.slice a7 r.length c7) 120 4 r.length (fl B2 r)::h=h') (l.length - 0) [(7,.slice none ([]).length 0),(12,.int .i64 0)] (h0:=.row (.slice none ([]).length 0) 120 4 ([]).length (fl B2 ([]))::h) ?_ Sb ⟨none,0,[],0,⟨⟨by omega,by simp⟩,rfl⟩,rfl,rfl,rfl⟩ ?_;exact Su;rintro _ _ _ ⟨a7,c7,r,j,⟨⟨hj,hr⟩,hJ⟩,rfl,rfl,rfl⟩;refine B1 rfl ?_;refine kQ1 [1,2,7,10,11,12,13] ?_;refine wc (fun c13=>?_) fun c13=>?_
 replace c13:=dT c13;obtain⟨x,hx⟩:=A5 (l:=l) (k:=j) (by omega);have hxm:=List.mem_of_getElem? hx;have hfx:=hb x hxm;have htk:=a1w hx;have h3:j * 3001<=9000000:=by omega
 refine kQ0 [1,2,7,10,11,12] ?_;refine kA3 ?_;refine xW fun b9=>?_
 refine kQ2 [1,2,7,8,9,10,11,12] ?_;refine kP2 [1,2,7,9,10,11,12,18] ?_;refine H9 KKh [1,2,9,10,11,12] rfl (fun F' h'=>∃ a8:Option Addr,∃ c8:Nat,∃ r2:List Tok,(r2.length<=r.length+1/\r2++f x=C9 sep f (l.take (j+1)))/\F'=[(7,.slice a8 r2.length c8)]/\.pt b9 (.cells (foE x).toArray 154 (0,0))::.row (.slice a8 r2.length c8) 120 4 r2.length (fl B2 r2)::h=h') ?_ ?_;refine jE ?_;refine wc (fun c18=>?_) fun c18=>?_
 replace c18:=dT c18;have hln:(r++[(⟨5,0,sep,0⟩:Tok)]).length=r.length+1:=List.length_append;refine kA2 ?_;refine xf (E1 Et) (G5 _ _ _) ?_;refine xY A6 Eb fun b22=>?_
 refine xD A6 (Ev.tmp rfl) (Ev.tmp rfl) (show r.length+1=(r++[(⟨5,0,sep,0⟩:Tok)]).length by simp) (E9 (enc:=B2) _ (⟨5,0,sep,0⟩)) fun a23 c23=>?_
 refine kA1 ?_;refine WL.nil (C8 [(7,.slice a23 (r++[(⟨5,0,sep,0⟩:Tok)]).length c23)] (h'':=.pt b9 (.cells (foE x).toArray 154 (0,0))::.row (.slice a23 (r++[(⟨5,0,sep,0⟩:Tok)]).length c23) 120 4 (r++[(⟨5,0,sep,0⟩:Tok)]).length (fl B2 (r++[(⟨5,0,sep,0⟩:Tok)]))::h) ?_ Su Sb ⟨a23,c23,r++[(⟨5,0,sep,0⟩:Tok)],⟨by omega,by rw[htk,a1g sep f _ x (by intro q;have:=congrArg List.length q;rw[List.length_take] at this;simp only[List.length_nil] at this;omega),<- hJ,List.append_assoc];rfl⟩,rfl,rfl⟩);exact Su;replace c18:=dF c18;have hj0:j=0:=by omega
 subst hj0;have hr0:r=[]:=hJ;subst hr0;refine WC.skip (C8 [(7,.slice a7 ([]).length c7)] (h'':=.pt b9 (.cells (foE x).toArray 154 (0,0))::.row (.slice a7 ([]).length c7) 120 4 ([]).length (fl B2 ([]))::h) ?_ Su Sb ⟨a7,c7,[],⟨by simp,by rw[htk];rfl⟩,rfl,rfl⟩);exact Su;rintro _ _ ⟨a8,c8,r2,⟨hr2,hJ2⟩,rfl,rfl⟩;refine B1 rfl ?_;refine kA3 ?_;refine F3 (Ev.tmp rfl) (E1 (Ev.tmp rfl)) (ht x hxm _ Sb) Lb ?_;rintro _ _ ⟨a27,c27,k27,e27,rfl,rfl⟩;refine kR a27 fun p27 q27 r27=>?_
 have hln:(r2++f x).length=r2.length+k27:=by rw[List.length_append,e27]
 refine xD A6 (Ev.tmp rfl) (Ev.tmp rfl) (show r2.length+k27=(r2++f x).length from hln.symm) (a2U (enc:=B2) r2 (f x)).symm fun a28 c28=>?_
 refine kQ1 [1,2,7,10,11,12] ?_;refine kA2 ?_;refine WL.nil (A4 (l.length - (j+1)) [(7,.slice a28 (r2++f x).length c28),(12,.int .i64 (j+1))] (h'':=.row (.slice a28 (r2++f x).length c28) 120 4 (r2++f x).length (fl B2 (r2++f x))::h) (by omega) ?_ Su Sb ⟨a28,c28,r2++f x,j+1,⟨⟨by omega,by omega⟩,hJ2⟩,rfl,rfl,rfl⟩);exact Su;replace c13:=dF c13;rw[List.take_of_length_le (by omega)] at hJ;subst hJ;refine kQ0 [7] ?_;refine kQ2 [6] ?_;refine wT (.row (.slice a7 (C9 sep f l).length c7) 120 4 (C9 sep f l).length (fl B2 (C9 sep f l))::h) ?_;exact⟨_,_,_,rfl,rfl,rfl⟩
theorem b4q {m:View} (q:FuncId) (f:B->List Tok) (sep:B) (a:Option Addr) (k c:Nat) (l:List B) (h:List Res) (hs:Rd m h a k c 1 (fl encB l)) (hk:k<=3000) (hb:∀ x ∈ l,(f x).length<=3000)
 (ht:∀ x ∈ l,∀ h',h.Sublist h'->CT Tryz.prog q [str x] h' m (fun v _ h2=>OwT h' (f x) v h2)) :
 CT Tryz.prog 160 [.slice a k c,str sep,.func (.func q) #[] #[]] h m (fun v _ h'=>OwT h (C9 sep f l) v h'):=by
 have hlen:=hs.lenF C4 (by decide);subst hlen;refine CT.body Tryz.call160 Tryz.func160 rfl Tryz.ntmps160 Lb rfl ?_;refine kQ1 [0,1,2] ?_;refine WL.addNil 120 4 ?_;refine kQ1 [0,1,2,7] ?_;refine kQ3 [1,2,7,10,11,12] ?_;refine B0 [1,2,10,11] rfl (fun μ F' h'=>∃ a7:Option Addr,∃ c7:Nat,∃ r:List Tok,∃ j:Nat,((j<=l.length/\r.length<=j * 3001)/\r=C9 sep f (l.take j))/\l.length - j=μ/\F'=[(7,.slice a7 r.length c7),(12,.int .i64 j)]/\.row (.slice a7 r.length c7) 120 4 r.length (fl B2 r)::h=h') (l.length - 0) [(7,.slice none ([]).length 0),(12,.int .i64 0)] (h0:=.row (.slice none ([]).length 0) 120 4 ([]).length (fl B2 ([]))::h) ?_ Sb ⟨none,0,[],0,⟨⟨by omega,by simp⟩,rfl⟩,rfl,rfl,rfl⟩ ?_;exact Su;rintro _ _ _ ⟨a7,c7,r,j,⟨⟨hj,hr⟩,hJ⟩,rfl,rfl,rfl⟩;refine B1 rfl ?_;refine kQ1 [1,2,7,10,11,12,13] ?_;refine wc (fun c13=>?_) fun c13=>?_
 replace c13:=dT c13;obtain⟨x,hx⟩:=A5 (l:=l) (k:=j) (by omega);have hxm:=List.mem_of_getElem? hx;have hfx:=hb x hxm;have htk:=a1w hx;have h3:j * 3001<=9000000:=by omega
 refine kQ0 [1,2,7,10,11,12] ?_;refine kQ5 [1,2,7,8,9,10,11,12] ?_;refine kP2 [1,2,7,9,10,11,12,18] ?_;refine H9 KKh [1,2,9,10,11,12] rfl (fun F' h'=>∃ a8:Option Addr,∃ c8:Nat,∃ r2:List Tok,(r2.length<=r.length+1/\r2++f x=C9 sep f (l.take (j+1)))/\F'=[(7,.slice a8 r2.length c8)]/\.row (.slice a8 r2.length c8) 120 4 r2.length (fl B2 r2)::h=h') ?_ ?_;refine jE ?_;refine wc (fun c18=>?_) fun c18=>?_
 replace c18:=dT c18;have hln:(r++[(⟨5,0,sep,0⟩:Tok)]).length=r.length+1:=List.length_append;refine kA2 ?_;refine xf (E1 Et) (G5 _ _ _) ?_;refine xY A6 Eb fun b22=>?_
 refine xD A6 (Ev.tmp rfl) (Ev.tmp rfl) (show r.length+1=(r++[(⟨5,0,sep,0⟩:Tok)]).length by simp) (E9 (enc:=B2) _ (⟨5,0,sep,0⟩)) fun a23 c23=>?_
 refine kA1 ?_;refine WL.nil (C8 [(7,.slice a23 (r++[(⟨5,0,sep,0⟩:Tok)]).length c23)] (h'':=.row (.slice a23 (r++[(⟨5,0,sep,0⟩:Tok)]).length c23) 120 4 (r++[(⟨5,0,sep,0⟩:Tok)]).length (fl B2 (r++[(⟨5,0,sep,0⟩:Tok)]))::h) ?_ Su Sb ⟨a23,c23,r++[(⟨5,0,sep,0⟩:Tok)],⟨by omega,by rw[htk,a1g sep f _ x (by intro q;have:=congrArg List.length q;rw[List.length_take] at this;simp only[List.length_nil] at this;omega),<- hJ,List.append_assoc];rfl⟩,rfl,rfl⟩);exact Su;replace c18:=dF c18;have hj0:j=0:=by omega
 subst hj0;have hr0:r=[]:=hJ;subst hr0;refine WC.skip (C8 [(7,.slice a7 ([]).length c7)] (h'':=.row (.slice a7 ([]).length c7) 120 4 ([]).length (fl B2 ([]))::h) ?_ Su Sb ⟨a7,c7,[],⟨by simp,by rw[htk];rfl⟩,rfl,rfl⟩);exact Su;rintro _ _ ⟨a8,c8,r2,⟨hr2,hJ2⟩,rfl,rfl⟩;refine B1 rfl ?_;refine kA3 ?_;refine F3 (Ev.tmp rfl) (E1 (Ev.tmp rfl)) (ht x hxm _ Sb) Lb ?_;rintro _ _ ⟨a27,c27,k27,e27,rfl,rfl⟩;refine kR a27 fun p27 q27 r27=>?_
 have hln:(r2++f x).length=r2.length+k27:=by rw[List.length_append,e27]
 refine xD A6 (Ev.tmp rfl) (Ev.tmp rfl) (show r2.length+k27=(r2++f x).length from hln.symm) (a2U (enc:=B2) r2 (f x)).symm fun a28 c28=>?_
 refine kQ1 [1,2,7,10,11,12] ?_;refine kA2 ?_;refine WL.nil (A4 (l.length - (j+1)) [(7,.slice a28 (r2++f x).length c28),(12,.int .i64 (j+1))] (h'':=.row (.slice a28 (r2++f x).length c28) 120 4 (r2++f x).length (fl B2 (r2++f x))::h) (by omega) ?_ Su Sb ⟨a28,c28,r2++f x,j+1,⟨⟨by omega,by omega⟩,hJ2⟩,rfl,rfl,rfl⟩);exact Su;replace c13:=dF c13;rw[List.take_of_length_le (by omega)] at hJ;subst hJ;refine kQ0 [7] ?_;refine kQ2 [6] ?_;refine wT (.row (.slice a7 (C9 sep f l).length c7) 120 4 (C9 sep f l).length (fl B2 (C9 sep f l))::h) ?_;exact⟨_,_,_,rfl,rfl,rfl⟩
theorem a8o {m:View} (q:FuncId) (f:Int->List Tok) (sep:B) (a:Option Addr) (k c:Nat) (l:List Int) (h:List Res) (hs:Rd m h a k c 1 (fl L7 l)) (hk:k<=3000) (hb:∀ x ∈ l,(f x).length<=3000)
 (ht:∀ x ∈ l,∀ h',h.Sublist h'->CT Tryz.prog q [.int .u8 x] h' m (fun v _ h2=>OwT h' (f x) v h2)) :
 CT Tryz.prog 166 [.slice a k c,str sep,.func (.func q) #[] #[]] h m (fun v _ h'=>OwT h (C9 sep f l) v h'):=by
 have hlen:=hs.lenF D3 (by decide);subst hlen;refine CT.body Tryz.call166 Tryz.func166 rfl Tryz.ntmps166 Lb rfl ?_;refine kQ1 [0,1,2] ?_;refine WL.addNil 120 4 ?_;refine kQ1 [0,1,2,7] ?_;refine kQ3 [1,2,7,10,11,12] ?_;refine B0 [1,2,10,11] rfl (fun μ F' h'=>∃ a7:Option Addr,∃ c7:Nat,∃ r:List Tok,∃ j:Nat,((j<=l.length/\r.length<=j * 3001)/\r=C9 sep f (l.take j))/\l.length - j=μ/\F'=[(7,.slice a7 r.length c7),(12,.int .i64 j)]/\.row (.slice a7 r.length c7) 120 4 r.length (fl B2 r)::h=h') (l.length - 0) [(7,.slice none ([]).length 0),(12,.int .i64 0)] (h0:=.row (.slice none ([]).length 0) 120 4 ([]).length (fl B2 ([]))::h) ?_ Sb ⟨none,0,[],0,⟨⟨by omega,by simp⟩,rfl⟩,rfl,rfl,rfl⟩ ?_;exact Su;rintro _ _ _ ⟨a7,c7,r,j,⟨⟨hj,hr⟩,hJ⟩,rfl,rfl,rfl⟩;refine B1 rfl ?_;refine kQ1 [1,2,7,10,11,12,13] ?_;refine wc (fun c13=>?_) fun c13=>?_
 replace c13:=dT c13;obtain⟨x,hx⟩:=A5 (l:=l) (k:=j) (by omega);have hxm:=List.mem_of_getElem? hx;have hfx:=hb x hxm;have htk:=a1w hx;have h3:j * 3001<=9000000:=by omega
 refine kQ0 [1,2,7,10,11,12] ?_;refine kQ5 [1,2,7,8,9,10,11,12] ?_;refine kP2 [1,2,7,9,10,11,12,18] ?_;refine H9 KKh [1,2,9,10,11,12] rfl (fun F' h'=>∃ a8:Option Addr,∃ c8:Nat,∃ r2:List Tok,(r2.length<=r.length+1/\r2++f x=C9 sep f (l.take (j+1)))/\F'=[(7,.slice a8 r2.length c8)]/\.row (.slice a8 r2.length c8) 120 4 r2.length (fl B2 r2)::h=h') ?_ ?_;refine jE ?_;refine wc (fun c18=>?_) fun c18=>?_
 replace c18:=dT c18;have hln:(r++[(⟨5,0,sep,0⟩:Tok)]).length=r.length+1:=List.length_append;refine kA2 ?_;refine xf (E1 Et) (G5 _ _ _) ?_;refine xY A6 Eb fun b22=>?_
 refine xD A6 (Ev.tmp rfl) (Ev.tmp rfl) (show r.length+1=(r++[(⟨5,0,sep,0⟩:Tok)]).length by simp) (E9 (enc:=B2) _ (⟨5,0,sep,0⟩)) fun a23 c23=>?_
 refine kA1 ?_;refine WL.nil (C8 [(7,.slice a23 (r++[(⟨5,0,sep,0⟩:Tok)]).length c23)] (h'':=.row (.slice a23 (r++[(⟨5,0,sep,0⟩:Tok)]).length c23) 120 4 (r++[(⟨5,0,sep,0⟩:Tok)]).length (fl B2 (r++[(⟨5,0,sep,0⟩:Tok)]))::h) ?_ Su Sb ⟨a23,c23,r++[(⟨5,0,sep,0⟩:Tok)],⟨by omega,by rw[htk,a1g sep f _ x (by intro q;have:=congrArg List.length q;rw[List.length_take] at this;simp only[List.length_nil] at this;omega),<- hJ,List.append_assoc];rfl⟩,rfl,rfl⟩);exact Su;replace c18:=dF c18;have hj0:j=0:=by omega
 subst hj0;have hr0:r=[]:=hJ;subst hr0;refine WC.skip (C8 [(7,.slice a7 ([]).length c7)] (h'':=.row (.slice a7 ([]).length c7) 120 4 ([]).length (fl B2 ([]))::h) ?_ Su Sb ⟨a7,c7,[],⟨by simp,by rw[htk];rfl⟩,rfl,rfl⟩);exact Su;rintro _ _ ⟨a8,c8,r2,⟨hr2,hJ2⟩,rfl,rfl⟩;refine B1 rfl ?_;refine kA3 ?_;refine F3 (Ev.tmp rfl) (E1 (Ev.tmp rfl)) (ht x hxm _ Sb) Lb ?_;rintro _ _ ⟨a27,c27,k27,e27,rfl,rfl⟩;refine kR a27 fun p27 q27 r27=>?_
 have hln:(r2++f x).length=r2.length+k27:=by rw[List.length_append,e27]
 refine xD A6 (Ev.tmp rfl) (Ev.tmp rfl) (show r2.length+k27=(r2++f x).length from hln.symm) (a2U (enc:=B2) r2 (f x)).symm fun a28 c28=>?_
 refine kQ1 [1,2,7,10,11,12] ?_;refine kA2 ?_;refine WL.nil (A4 (l.length - (j+1)) [(7,.slice a28 (r2++f x).length c28),(12,.int .i64 (j+1))] (h'':=.row (.slice a28 (r2++f x).length c28) 120 4 (r2++f x).length (fl B2 (r2++f x))::h) (by omega) ?_ Su Sb ⟨a28,c28,r2++f x,j+1,⟨⟨by omega,by omega⟩,hJ2⟩,rfl,rfl,rfl⟩);exact Su;replace c13:=dF c13;rw[List.take_of_length_le (by omega)] at hJ;subst hJ;refine kQ0 [7] ?_;refine kQ2 [6] ?_;refine wT (.row (.slice a7 (C9 sep f l).length c7) 120 4 (C9 sep f l).length (fl B2 (C9 sep f l))::h) ?_;exact⟨_,_,_,rfl,rfl,rfl⟩
theorem a4F {α:Type} {p:α->Prop} {x:α} (h:p x):∀ y ∈ [x],p y:=fun _ hy=>(List.mem_singleton.1 hy) ▸ h
theorem _root_.Go.Pc.EOk.fr {m:View} {h:List Res} {e:Ex} (q:EOk m h e) (fr:List Res):EOk m (fr++h) e:=q.mono (List.sublist_append_right fr h)
theorem H1 {α:Type} {p:α->Prop}:∀ y ∈ ([]:List α),p y:=fun _ hx=>(List.not_mem_nil hx).elim
theorem B3 {α:Type} {p:α->Prop} {x:α} {l:List α} (h:p x) (r:∀ y ∈ l,p y):∀ y ∈ x::l,p y:=fun y hy=>by
 rcases List.mem_cons.1 hy with rfl | hy
 ·exact h
 ·exact r y hy
theorem b0a {m:View} (hg:Glob m) (s:B) (hw:s.length<=1000) (a:Option Addr) (k c:Nat) (l:List Tok) (h:List Res) (hs:Rd m h a k c 4 (fl B2 l)) (hk:k<=9000000):CT Tryz.prog 168 [str s,.slice a k c] h m (fun v _ h'=>OwT h (a1E s l) v h'):=by
 have hlen:=hs.lenF B4 (by decide);subst hlen;refine CT.body Tryz.call168 Tryz.func168 rfl Tryz.ntmps168 Lb rfl ?_;refine j0 ?_;refine WL.addNil 120 4 ?_;refine kQ1 [0,1] ?_;refine kQ3 [0,1,7] ?_;refine wc (fun c7=>?_) fun c7=>?_
 replace c7:=F9 c7;have e7:a1E s l=[]:=by unfold a1E;rw[if_pos (by omega)]
 refine j0 ?_;refine WL.addNil 120 4 ?_;refine kQ1 [4] ?_;refine wT (.row (.slice none 0 0) 120 4 0 (fl B2 [])::h) ?_;rw[e7];exact⟨none,0,0,rfl,rfl,rfl⟩
 replace c7:=F7 c7;have e7:a1E s l=A1 s::l:=by unfold a1E;rw[if_neg (by omega)]
 have hln:(A1 s::l).length=l.length+1:=rfl;refine kQ0 [0,1] ?_;refine kA1 ?_;refine xY M1 Eb fun b9=>?_
 refine xg (E1 Et) (C2 hg _ 1 _ [s] _ Rr (by decide) (a4F (Nat.le_trans hw (by decide)))) ?_;rintro _ _ ⟨a10,c10,_,rfl,rfl,rfl⟩;refine kA1 ?_;refine xD A6 (Ev.tmp rfl) (Ev.tmp rfl) (show 1+l.length=(A1 s::l).length by rw[hln,Nat.add_comm]) (a2U (enc:=B2) [A1 s] l).symm fun a12 c12=>?_
 refine kQ1 [4] ?_;refine wT (.row (.slice a12 (A1 s::l).length c12) 120 4 (A1 s::l).length (fl B2 (A1 s::l))::h) ?_;rw[e7];exact⟨_,_,_,rfl,rfl,rfl⟩
theorem c0C (n:Nat) (h:List Res) (m:View) (hn:n<=300000):CT Tryz.prog 227 [.slice none 0 0,.int .i64 n] h m (fun v _ h'=>OwT h [] v h'):=by
 refine CT.body Tryz.call227 Tryz.func227 rfl Tryz.ntmps227 Lb rfl ?_;refine kQ1 [0,1] ?_;refine kQ2 [0,1,6] ?_;refine wc (fun c6=>?_) fun c6=>?_
 replace c6:=dT c6;omega;replace c6:=dF c6;refine kQ0 [0,1] ?_;refine kA2 ?_;refine xG (b0p Z0 Et) ?_;refine kA2 ?_;refine xG (U0 Et Et (by omega)) ?_;refine xG (U0 Et Et (by omega)) ?_;refine kQ1 [0,1] ?_;refine kQ2 [0,1,16] ?_;refine wc (fun c16=>?_) fun c16=>?_
 replace c16:=dT c16;have hn0:0 < n:=by omega
 refine kA2 ?_;refine xG (b0p Z0 Et) ?_;refine xG (a5t A6.und A6.size Et Et rfl (by omega)) ?_;refine kA1 ?_;refine b8H A6 uu3 Et Et (q:=n) (by omega) (by omega) (by omega) (by omega) Lb fun b22 c22 hq22 hc22=>?_
 refine kA2 ?_;refine xG (a5t A6.und A6.size Et Et rfl (by omega)) ?_;refine kQ1 [0] ?_;refine kQ2 [4] ?_;refine wT (.row (.slice (some ⟨b22,0,none⟩) 0 c22) 120 4 0 (fl B2 [])::h) ?_;exact⟨_,_,0,rfl,rfl,by rw[c2P _ _ _ (.inr ⟨_,_,rfl⟩)]⟩;replace c16:=dF c16;refine WC.addNil 120 4 ?_;refine kQ0 [0] ?_;refine kQ2 [4] ?_;refine wT (.row (.slice none 0 0) 120 4 0 (fl B2 [])::h) ?_;exact⟨_,_,0,rfl,rfl,rfl⟩
def ptE (s:Sli Tok):List Value:=[.slice s.a s.l.length s.c]
theorem b3o (s:Sli Tok):(ptE s).length=1:=rfl
set_option linter.defProp false in
@[reducible,instance]def iptE_len:=Go.Eng.Ln.mk b3o (by decide)
theorem a3N (a:Option Addr) (k c:Nat) (ps:List (Sli Tok)) (h:List Res) (m:View) (hs:Rd m h a k c 1 (fl ptE ps)) (hp:∀ p ∈ ps,Rd m h p.a p.l.length p.c 4 (fl B2 p.l)) (hk:k<=10) (hb:∀ p ∈ ps,p.l.length<=30000) :
 CT Tryz.prog 173 [.slice a k c] h m (fun v _ h'=>OwT h (ps.flatMap (·.l)) v h'):=by
 have hlen:=hs.lenF b3o (by decide);subst hlen;refine CT.body Tryz.call173 Tryz.func173 rfl Tryz.ntmps173 Lb rfl ?_;refine kQ1 [0] ?_;refine kQ1 [0,3] ?_;refine kQ3 [0,3,9,10,11] ?_;refine B0 [0,9,10] rfl (fun μ F' h'=>∃ s:Nat,∃ j:Nat,(j<=ps.length/\s<=j * 30000)/\ps.length - j=μ/\F'=[(3,.int .i64 s),(11,.int .i64 j)]/\h=h') (ps.length - 0) [(3,.int .i64 0),(11,.int .i64 0)] (h0:=h) ?_ Sb ⟨0,0,⟨by omega,by omega⟩,rfl,rfl,rfl⟩ ?_;exact Su;rintro _ _ _ ⟨s,j,⟨hj,hs1⟩,rfl,rfl,rfl⟩;refine B1 rfl ?_;refine kQ1 [0,3,9,10,11,12] ?_;refine wc (fun c12=>?_) fun c12=>?_
 replace c12:=dT c12;obtain⟨p,hx⟩:=A5 (l:=ps) (k:=j) (by omega);have hbp:=hb p (List.mem_of_getElem? hx);refine kQ0 [0,3,9,10,11] ?_;refine kQ3 [0,3,5,9,10,11] ?_;refine kA3 ?_;refine xG (M2 Et Et (by omega)) ?_;refine WL.val (v':=.int .i64 ((s+p.l.length:Nat):Int)) (congrArg (Value.int .i64) (by omega)) ?_;refine kQ1 [0,3,9,10,11] ?_;refine kQ2 [0,3,9,10,11,20] ?_;refine wc (fun c20=>?_) fun c20=>?_
 replace c20:=dT c20;omega;replace c20:=dF c20;refine kQ0 [0,3,9,10,11] ?_;refine kA2 ?_;refine WL.nil (A4 (ps.length - (j+1)) [(3,.int .i64 (s+p.l.length)),(11,.int .i64 (j+1))] (h'':=h) (by omega) ?_ Su Sb ⟨s+p.l.length,j+1,⟨by omega,by omega⟩,rfl,rfl,rfl⟩);exact Su;replace c12:=dF c12;refine kQ0 [0,3] ?_;refine kA1 ?_;refine xg (E2 Ek Et) (c0C s _ _ (by omega)) ?_;rintro _ _ ⟨a24,c24,_,rfl,rfl,rfl⟩;refine kQ1 [0,6] ?_;refine kQ3 [6,25,26,27] ?_
 refine B0 [25,26] rfl (fun μ F' h'=>∃ a6:Option Addr,∃ c6:Nat,∃ r:List Tok,∃ j:Nat,((j<=ps.length/\r.length<=j * 30000)/\r=(ps.take j).flatMap (·.l))/\ps.length - j=μ/\F'=[(6,.slice a6 r.length c6),(27,.int .i64 j)]/\.row (.slice a6 r.length c6) 120 4 r.length (fl B2 r)::h=h') (ps.length - 0) [(6,.slice a24 ([]).length c24),(27,.int .i64 0)] (h0:=.row (.slice a24 ([]).length c24) 120 4 ([]).length (fl B2 ([]))::h) ?_ Sb ⟨a24,c24,[],0,⟨⟨by omega,by simp⟩,rfl⟩,rfl,rfl,rfl⟩ ?_;exact Su;rintro _ _ _ ⟨a6,c6,r,j,⟨⟨hj,hr⟩,hJ⟩,rfl,rfl,rfl⟩;refine B1 rfl ?_;refine kQ1 [6,25,26,27,28] ?_;refine wc (fun c28=>?_) fun c28=>?_
 replace c28:=dT c28;obtain⟨p,hx⟩:=A5 (l:=ps) (k:=j) (by omega);have hbp:=hb p (List.mem_of_getElem? hx);have hpr:=hp p (List.mem_of_getElem? hx);have htk:(ps.take (j+1)).flatMap (·.l)=(ps.take j).flatMap (·.l)++p.l:=by rw[a1w hx,List.flatMap_append];simp
 refine kQ0 [6,25,26,27] ?_;refine kQ3 [6,8,25,26,27] ?_;refine kA2 ?_;have hln:(r++p.l).length=r.length+p.l.length:=List.length_append;refine xD A6 (Ev.tmp rfl) (Ev.tmp rfl) (show r.length+p.l.length=(r++p.l).length from hln.symm) (a2U (enc:=B2) r p.l).symm fun a33 c33=>?_
 refine kQ1 [6,25,26,27] ?_;refine kA2 ?_;refine WL.nil (A4 (ps.length - (j+1)) [(6,.slice a33 (r++p.l).length c33),(27,.int .i64 (j+1))] (h'':=.row (.slice a33 (r++p.l).length c33) 120 4 (r++p.l).length (fl B2 (r++p.l))::h) (by omega) ?_ Su Sb ⟨a33,c33,r++p.l,j+1,⟨⟨by omega,by omega⟩,by rw[htk,hJ]⟩,rfl,rfl,rfl⟩);exact Su;replace c28:=dF c28;rw[List.take_of_length_le (by omega)] at hJ;subst hJ;refine kQ0 [6] ?_;refine kQ2 [2] ?_;refine wT (.row (.slice a6 (ps.flatMap (·.l)).length c6) 120 4 (ps.flatMap (·.l)).length (fl B2 (ps.flatMap (·.l)))::h) ?_;exact⟨_,_,_,rfl,rfl,rfl⟩
end
section
open Go.Eng Go.Pc Go.Sx Go
open Go.Xp hiding B D5
open Go.Ty (Ty Vr Tok eqT tyV I4 B2 B4 R1 zeroK L7 D3 encV D7)
open Go.Lx (encB C4 textO)
open Go.Ly (Rw O6 G8)
theorem a0H {d:Prop} {m:View} {R:Value->View->List Res->Prop} {c:List PanicEntry} {w:World} (h:d/\RQ m R (.panicked c) w):False:=by
 obtain⟨_,_,_,_,e,_⟩:=h;cases e
theorem K3 (e:Ex):(D8 e).length<=2000:=by
 unfold D8;split
 ·rename_i hm
  obtain⟨hF,hc⟩:=a5g hm;have:=a3B e hF;omega
 ·exact Nat.zero_le _
theorem a2b (t:Ty):(K1 t).length<=10:=by
 unfold K1 Go.Ty.tokens;split
 ·unfold Go.Ty.toks
  have h1:=Go.Ty.dimT_le t;have h2:=Go.Ty.chanT_le t;simp only[List.length_append,List.length_singleton];omega
 ·exact Nat.zero_le _
theorem c0u {m:View} (hg:Glob m) (r:Rp) (h:List Res) (hr:Rs m h r):CT Tryz.prog 169 [rpV r] h m (fun v _ h'=>OwT h (a1q r) v h'):=by
 have hB:=hr.b;have hC:=hr.c;have t1:=K3 r.base;have t2:=K3 r.count;refine CT.body Tryz.call169 Tryz.func169 rfl Tryz.ntmps169 Lb rfl ?_;refine j0 ?_;refine xX fun b1=>?_
 refine kQ1 [1] ?_;refine kA2 ?_;refine xG (M6 Et Ek) ?_;refine kQ0 [1,5] ?_;refine wc (fun c5=>?_) fun c5=>?_
 have c5:r.name=[]:=by simpa using c5
 have e5:a1q r=[]:=by unfold a1q;rw[if_pos c5]
 refine WC.addNil 120 4 ?_;refine kQ1 [2] ?_;refine wT (.row (.slice none 0 0) 120 4 0 (fl B2 [])::h) ?_;rw[e5];exact⟨none,0,0,rfl,rfl,rfl⟩
 have c5:¬ (r.name=[]):=by simpa using c5
 have e5:a1q r=[N6 r.name]++([A1 [61]]++(D8 r.base++([A1 [70,79,82]]++(D8 r.count++[])))):=by unfold a1q;rw[if_neg c5];simp only[List.append_assoc,List.append_nil]
 refine kQ0 [1] ?_;refine Z4 [2,3,4,7,8,9,4096] (.op 0 (.op 1 (.op 5 (.op 6 (.op 10 (.op 11 (.op 2 (.op 3 (.op 4 (.op 7 (.op 8 (.op 9 .nil)))))))))))) [12,13,14,15] _ [] D6 (fun _ _ _ h=>a0H h) [] (by kernel_rfl) ?_;refine kA6 ?_;refine G4 rfl rfl Ef (E1 Et) (fun fr=>a1o r.name _ _) Lb fun a8 c8=>?_
 refine sB rfl M1 fun b9=>?_
 refine G4 rfl rfl Ef (E1 (Ev.tmp rfl)) (fun fr=>C2 hg _ 1 _ [[61]] _ (Rd.fr Rr fr) (by decide) (a4F (by decide))) Lb fun a10 c10=>?_
 refine G4 rfl rfl Ef (E1 Et) (fun fr=>I8 hg r.base _ ((hB.mono Sb).fr fr)) Lb fun a13 c13=>?_
 refine sB rfl M1 fun b14=>?_
 refine G4 rfl rfl Ef (E1 (Ev.tmp rfl)) (fun fr=>C2 hg _ 1 _ [[70,79,82]] _ (Rd.fr Rr fr) (by decide) (a4F (by decide))) Lb fun a15 c15=>?_
 refine SR.nil rfl rfl ?_;refine xg (E1 Et) (I8 hg r.count _ (hC.mono Sb)) ?_;rintro _ _ ⟨a18,c18,_,rfl,rfl,rfl⟩;refine xY K7 Eb fun b19=>?_
 refine kR a8 fun p8 q8 r8=>?_
 refine kR a10 fun p10 q10 r10=>?_
 refine kR a13 fun p13 q13 r13=>?_
 refine kR a15 fun p15 q15 r15=>?_
 refine kR a18 fun p18 q18 r18=>?_
 refine xg (E1 Et) (a3N _ 5 _ [⟨a8,c8,[N6 r.name]⟩,⟨a10,c10,[A1 [61]]⟩,⟨a13,c13,D8 r.base⟩,⟨a15,c15,[A1 [70,79,82]]⟩,⟨a18,c18,D8 r.count⟩] _ _ (Rd.ofPt rfl (by decide) Me) (B3 (iR r8 p8 q8) (B3 (iR r10 p10 q10) (B3 (iR r13 p13 q13) (B3 (iR r15 p15 q15) (B3 (iR r18 p18 q18) H1))))) (by decide) (B3 (by simp) (B3 (by simp) (B3 (by simp;omega) (B3 (by simp) (B3 (by simp;omega) H1)))))) ?_;rintro _ _ ⟨a20,c20,_,rfl,rfl,rfl⟩;refine kQ1 [2] ?_;refine wT (.row (.slice a20 _ c20) 120 4 _ (fl B2 _)::h) ?_;exact⟨_,_,_,congrArg List.length e5.symm,rfl,by rw[e5];rfl⟩
theorem b2a {m:View} (hg:Glob m) (f:Fo) (h:List Res) (hw:FoW f):CT Tryz.prog 165 [foV f] h m (fun v _ h'=>OwT h (P4 f) v h'):=by
 have t1:=a2b f.ty;have hp2:f.ty.proto.length<=9223372036854775807:=Nat.le_trans hw.t.p (by decide);refine CT.body Tryz.call165 Tryz.func165 rfl Tryz.ntmps165 Lb rfl ?_;refine j0 ?_;refine xX fun b1=>?_
 refine kQ1 [1] ?_;refine kQ1 [1,3] ?_;refine kQ2 [1,3,5] ?_;refine wc (fun c5=>?_) fun c5=>?_
 have e5:P4 f=[A1 [86,65,76]]++(K1 f.ty++([N6 f.name]++[])):=by unfold P4;rw[if_pos c5];simp only[List.append_assoc,List.append_nil]
 refine j0 ?_;refine xY M1 Eb fun b6=>?_
 refine xg (E1 Et) (C2 hg _ 1 _ [[86,65,76]] _ Rr (by decide) (a4F (by decide))) ?_;rintro _ _ ⟨a7,c7,_,rfl,rfl,rfl⟩;refine kQ1 [1,3] ?_;refine F2 [3] (.op 0 (.op 1 (.op 2 (.op 4 (.op 5 (.op 3 .nil)))))) [6,7,8,9] _ [] D6 (fun _ _ _ _ _ h=>h) [0] (by kernel_rfl) ?_;refine kA5 ?_;refine G4 rfl rfl Ef (E1 Et) (fun fr=>a0N hg f.ty _ hp2) Lb fun a11 c11=>?_
 refine SR.nil rfl rfl ?_;refine xg (E1 Et) (a1o f.name _ _) ?_;rintro _ _ ⟨a14,c14,_,rfl,rfl,rfl⟩;refine xY K7 Eb fun b15=>?_
 refine kR a7 fun p7 q7 r7=>?_
 refine kR a11 fun p11 q11 r11=>?_
 refine kR a14 fun p14 q14 r14=>?_
 refine xg (E1 Et) (a3N _ 3 _ [⟨a7,c7,[A1 [86,65,76]]⟩,⟨a11,c11,K1 f.ty⟩,⟨a14,c14,[N6 f.name]⟩] _ _ (Rd.ofPt rfl (by decide) Me) (B3 (iR r7 p7 q7) (B3 (iR r11 p11 q11) (B3 (iR r14 p14 q14) H1))) (by decide) (B3 (by simp) (B3 (by simp;omega) (B3 (by simp) H1)))) ?_;rintro _ _ ⟨a16,c16,_,rfl,rfl,rfl⟩;refine kQ1 [2] ?_;refine wT (.row (.slice a16 _ c16) 120 4 _ (fl B2 _)::h) ?_;exact⟨_,_,_,congrArg List.length e5.symm,rfl,by rw[e5];rfl⟩;have e5:P4 f=[]++(K1 f.ty++([N6 f.name]++[])):=by unfold P4;rw[if_neg (G6 c5)];simp only[List.append_assoc,List.append_nil]
 refine kQ0 [1,3] ?_;refine F2 [3] (.op 0 (.op 1 (.op 2 (.op 4 (.op 5 (.op 3 .nil)))))) [6,7,8,9] _ [] D6 (fun _ _ _ _ _ h=>h) [0] (by kernel_rfl) ?_;refine kA5 ?_;refine G4 rfl rfl Ef (E1 Et) (fun fr=>a0N hg f.ty _ hp2) Lb fun a11 c11=>?_
 refine SR.nil rfl rfl ?_;refine xg (E1 Et) (a1o f.name _ _) ?_;rintro _ _ ⟨a14,c14,_,rfl,rfl,rfl⟩;refine xY K7 Eb fun b15=>?_
 refine kR a11 fun p11 q11 r11=>?_
 refine kR a14 fun p14 q14 r14=>?_
 refine xg (E1 Et) (a3N _ 3 _ [⟨none,0,[]⟩,⟨a11,c11,K1 f.ty⟩,⟨a14,c14,[N6 f.name]⟩] _ _ (Rd.ofPt rfl (by decide) Me) (B3 (Rd.nilF B2 4 _ _) (B3 (iR r11 p11 q11) (B3 (iR r14 p14 q14) H1))) (by decide) (B3 (by simp) (B3 (by simp;omega) (B3 (by simp) H1)))) ?_;rintro _ _ ⟨a16,c16,_,rfl,rfl,rfl⟩;refine kQ1 [2] ?_;refine wT (.row (.slice a16 _ c16) 120 4 _ (fl B2 _)::h) ?_;exact⟨_,_,_,congrArg List.length e5.symm,rfl,by rw[e5];rfl⟩
abbrev prB (b:Nat) (a:Option Addr) (c:Nat) (st:Ps):Res:=.pt b (.cells [.slice a st.1.length c,.bool st.2].toArray 129 (0,0))
abbrev prW (a:Option Addr) (c:Nat) (st:Ps):Res:=.row (.slice a st.1.length c) 53 3 st.1.length (fl O6 st.1)
theorem R0 {st:Ps} {x:Ln} (h:st.1.length<=2049):(C3 st x).1.length<=2049:=by
 unfold C3;split
 ·exact h
 ·rename_i q
  simp only[List.length_append,List.length_singleton];omega
theorem Y2:∀ (l:List Ln) {st:Ps},st.1.length<=2049->(B5 st l).1.length<=2049
 | [],_,h=>h
 | x::l,_,h=>Y2 l (R0 (x:=x) h)
abbrev PrR (b:Nat) (h:List Res) (st:Ps) (h':List Res):Prop:=∃ a c,h'=prB b a c st::prW a c st::h
theorem F8 {m:View} (hg:Glob m) (hp:Pow m) (b:Nat) (a:Option Addr) (c:Nat) (st:Ps) (d:Int) (pa:Option Addr) (pk pc:Nat) (ps:List (Sli Tok)) (toks:List Tok) (h:List Res) (hs:Rd m h pa pk pc 1 (fl ptE ps)) (hps:∀ p ∈ ps,Rd m h p.a p.l.length p.c 4 (fl B2 p.l)) (hk:pk<=10)
 (hb:∀ p ∈ ps,p.l.length<=30000) (he:ps.flatMap (·.l)=toks) (hT:TkL toks) (hn:st.1.length<=2049) :
 CT Tryz.prog 106 [ptV b,.int .i64 d,.slice pa pk pc] (prB b a c st::prW a c st::h) m (fun _ _ h'=>PrR b h (C3 st (d,toks)) h'):=by
 subst he;refine CT.body Tryz.call106 Tryz.func106 rfl Tryz.ntmps106 Lb rfl ?_;refine kA1 ?_;refine xg (E1 Et) (a3N pa pk pc ps _ _ (hs.mono Vl Sb) (fun p hp=>(hps p hp).mono Vl Sb) hk hb) ?_;rintro _ _ ⟨a10,c10,_,rfl,rfl,rfl⟩;refine kR a10 fun p10 q10 r10=>?_
 refine xf (E1 Et) (b5w a10 _ c10 _ _ m hg hp (iR r10 p10 q10) hT) ?_;refine kQ5 [0,1,6,7] ?_;refine kA4 ?_;refine zG (fun hc=>PO.nilCheck (Eg hc)) ?_;refine kQ5 [0,1,6,23] ?_;refine wc (fun c23=>?_) fun c23=>?_
 have e23:C3 st (d,ps.flatMap (·.l))=(st.1,true):=by
  unfold C3;rw[if_pos];simp only[Bool.or_eq_true,bne_iff_ne,ne_eq,decide_eq_true_eq] at c23;exact c23.imp id fun q=>by omega
 refine kQ4 [] ?_;refine WC.ret (a9h (h':=prB b a c (st.1,true)::prW a c st::h) (.inl rfl) rfl  Vl Sb ?_);exact⟨a,c,by rw[e23]⟩;have e23:C3 st (d,ps.flatMap (·.l))=(st.1++[⟨st.1.length+1,d,(textO (ps.flatMap (·.l))).1⟩],st.2):=by
  unfold C3;rw[if_neg];intro q;have:(((textO (ps.flatMap (·.l))).2 != 0)||decide ((st.1.length:Int) > 2048))=true:=by
   simp only[Bool.or_eq_true,bne_iff_ne,ne_eq,decide_eq_true_eq];exact q.imp id fun q=>by omega
  rw[this] at c23;cases c23
 have hln:(st.1++[(⟨st.1.length+1,d,(textO (ps.flatMap (·.l))).1⟩:Rw)]).length=st.1.length+1:=List.length_append;refine kQ0 [0,1,6] ?_;refine F2 [14] (.op 0 (.op 1 (.op 2 (.op 3 (.op 4 (.op 5 (.op 6 (.op 7 (.op 8 (.op 9 (.op 10 (.op 11 (.op 12 (.op 13 (.op 14 .nil))))))))))))))) [15,16,17,18] _ [] D6 (fun _ _ _ _ _ h=>h) [0] (by kernel_rfl) ?_;refine kA9 ?_;refine yG rfl (S4 b1T Et) ?_;refine yG rfl (M2 Et Ek (by omega)) ?_;refine kA2 ?_;refine yG rfl (PO.build b9p rfl rfl rfl Eb (by exact rfl)) ?_;refine sB rfl a4K fun b41=>?_
 refine SR.nil rfl rfl ?_;refine xD a4K (Ev.tmp rfl) (Ev.tmp rfl) (show st.1.length+1=(st.1++[(⟨st.1.length+1,d,(textO (ps.flatMap (·.l))).1⟩:Rw)]).length by simp) (E9 (enc:=O6) _ (⟨st.1.length+1,d,(textO (ps.flatMap (·.l))).1⟩)) fun a42 c42=>?_
 refine kA3 ?_;refine WL.nil (w0 (prB b a42 c42 (st.1++[⟨st.1.length+1,d,(textO (ps.flatMap (·.l))).1⟩],st.2)::prW a42 c42 (st.1++[⟨st.1.length+1,d,(textO (ps.flatMap (·.l))).1⟩],st.2)::h) ?_);exact⟨a42,c42,by rw[e23]⟩
end
section
open Go.Eng Go.Pc Go.Sx Go
open Go.Xp hiding B D5
open Go.Ty (Ty Vr Tok eqT tyV I4 B2 B4 R1 zeroK L7 D3 encV D7)
open Go.Lx (encB C4 textO)
open Go.Ly (Rw O6 G8)
theorem a2e {α:Type} (sep:B) (f:α->List Tok) (n:Nat):∀ (l:List α),(∀ x ∈ l,(f x).length<=n)->(C9 sep f l).length<=l.length * (n+1)
 | [],_=>Nat.zero_le _
 | [x],h=>by
  have:=h x (List.Mem.head _);show(f x).length<=1 * (n+1);omega
 | x::y::r,h=>by
  have h1:=h x (List.Mem.head _);have h2:=a2e sep f n (y::r) fun z hz=>h z (List.Mem.tail _ hz)
  show(f x++⟨5,0,sep,0⟩::C9 sep f (y::r)).length<=_;rw[List.length_append,List.length_cons];simp only[List.length_cons] at h2 ⊢;rw[Nat.add_mul (r.length+1) 1 (n+1)];omega
theorem Y5 (sep:B) (l:List Ex) (h:l.length<=9):(C9 sep D8 l).length<=30000:=by
 have h1:=a2e sep D8 2000 l fun x _=>K3 x
 have h2:l.length * 2001<=9 * 2001:=Nat.mul_le_mul_right _ h;omega
theorem a6E (r:Rp):(a1q r).length<=30000:=by
 unfold a1q;split
 ·exact Nat.zero_le _
 ·have h1:=K3 r.base
  have h2:=K3 r.count;simp only[List.length_append,List.length_singleton];omega
theorem a0M {m:View} (hg:Glob m) (b4:Nat) (p:Pr) (sep:B) (h:List Res) (hb:Res.pt b4 (.cells (prE p).toArray 46 (0,0)) ∈ h) (hL:LOk m h p.ex) (hE:p.ex.l.length<=9) :
 CT Tryz.prog 170 [str sep,ptV b4] h m (fun v _ h'=>OwT h (C9 sep D8 p.ex.l) v h'):=by
 refine CT.body Tryz.call170 Tryz.func170 rfl Tryz.ntmps170 Lb rfl ?_;refine kQ1 [0,1] ?_;refine kA1 ?_;refine xG (D0 c3y rfl Et hb rfl) ?_;refine kA1 ?_;refine xg (E3 Et Et Ef) (a2f 163 D8 sep _ _ _ p.ex.l _ hL.rd (by omega) (fun x _=>Nat.le_trans (K3 x) (by decide)) (fun x hx h2 hh=>I8 hg x h2 ((hL.ok x hx).mono hh))) ?_;rintro _ _ ⟨a7,c7,_,rfl,rfl,rfl⟩;refine kQ1 [3] ?_;refine wT (.row (.slice a7 (C9 sep D8 p.ex.l).length c7) 120 4 (C9 sep D8 p.ex.l).length (fl B2 (C9 sep D8 p.ex.l))::h) ?_;exact⟨_,_,_,rfl,rfl,rfl⟩
set_option maxHeartbeats 4000000 in
theorem b5S {m:View} (hg:Glob m) (hp:Pow m) (p:Pr) (b:Nat) (a:Option Addr) (c:Nat) (st:Ps) (d:Int) (h:List Res) (hO:P1 m h p) (hTg:p.tg.l.length<=9) (hEx:p.ex.l.length<=9) (hk:1<=p.k/\p.k<=17) (hT:TkL (A8 p.k p.name p.ch p.tg.l p.ex.l p.rep)) (hn:st.1.length<=2049) :
 CT Tryz.prog 105 [ptV b,prV p,.int .i64 d] (prB b a c st::prW a c st::h) m (fun _ _ h'=>PrR b h (C3 st (d,A8 p.k p.name p.ch p.tg.l p.ex.l p.rep)) h'):=by
 refine CT.body Tryz.call105 Tryz.func105 rfl Tryz.ntmps105 Lb rfl ?_;refine j0 ?_;refine xX fun b4=>?_
 refine kQ0 [0,2,4] ?_;refine kA2 ?_;refine xg (E1 Et) (c0u hg p.rep _ (Rs.mono (h:=h) ⟨hO.rn,hO.rb,hO.rc⟩ Sb)) ?_;rintro _ _ ⟨a10,c10,_,rfl,rfl,rfl⟩;refine kQ1 [0,2,4,6] ?_;refine xG (PO.makeFunc Evs.nil (E1 Et)) ?_;refine kQ1 [0,2,4,6,7] ?_;refine kQ2 [0,2,4,6,7,13] ?_;refine kQ2 [0,2,4,6,7,13,14] ?_;refine wc (fun c14=>?_) fun c14=>?_
 replace c14:=F9 c14;have e9:=A8.eq_1 p.k p.name p.ch p.tg.l p.ex.l p.rep;rw[if_pos c14] at e9;refine kA2 ?_;refine xY M1 Eb fun b18=>?_
 refine xg (E1 Et) (C2 hg _ 1 _ [[83,75,73,80]] _ Rr (by decide) (by decide)) ?_;rintro _ _ ⟨a19,c19,_,rfl,rfl,rfl⟩;refine xY K7 Eb fun b20=>?_
 refine kR a19 fun p19 q19 r19=>?_
 refine WL.perm ((Del.perm (r:=prB b a c st) De).trans ((Del.perm (r:=prW a c st) De).cons _)) ?_;refine xg (E3 Et Et Et) (F8 hg hp b a c st d _ 1 _ [⟨a19,c19,[A1 [83,75,73,80]]⟩] (A8 p.k p.name p.ch p.tg.l p.ex.l p.rep) _ (Rd.ofPt rfl (by decide) Me) (B3 (iR r19 p19 q19) H1) (by decide) (B3 (by simp) H1) (by rw[e9];simp) (hT) hn) ?_;rintro _ _ ⟨a21,c21,rfl⟩;refine WL.nil (w0 (prB b a21 c21 (C3 st (d,A8 p.k p.name p.ch p.tg.l p.ex.l p.rep))::prW a21 c21 (C3 st (d,A8 p.k p.name p.ch p.tg.l p.ex.l p.rep))::h) ?_);exact⟨a21,c21,rfl⟩;replace c14:=F7 c14;refine kQ2 [0,2,4,6,7,13,22] ?_;refine wc (fun c22=>?_) fun c22=>?_
 replace c22:=F9 c22;have e9:=A8.eq_1 p.k p.name p.ch p.tg.l p.ex.l p.rep;rw[if_neg c14,if_pos c22] at e9;refine kA2 ?_;refine xY M1 Eb fun b26=>?_
 refine xg (E1 Et) (C2 hg _ 1 _ [[83,84,79,80]] _ Rr (by decide) (by decide)) ?_;rintro _ _ ⟨a27,c27,_,rfl,rfl,rfl⟩;refine xY K7 Eb fun b28=>?_
 refine kR a27 fun p27 q27 r27=>?_
 refine WL.perm ((Del.perm (r:=prB b a c st) De).trans ((Del.perm (r:=prW a c st) De).cons _)) ?_;refine xg (E3 Et Et Et) (F8 hg hp b a c st d _ 1 _ [⟨a27,c27,[A1 [83,84,79,80]]⟩] (A8 p.k p.name p.ch p.tg.l p.ex.l p.rep) _ (Rd.ofPt rfl (by decide) Me) (B3 (iR r27 p27 q27) H1) (by decide) (B3 (by simp) H1) (by rw[e9];simp) (hT) hn) ?_;rintro _ _ ⟨a29,c29,rfl⟩;refine WL.nil (w0 (prB b a29 c29 (C3 st (d,A8 p.k p.name p.ch p.tg.l p.ex.l p.rep))::prW a29 c29 (C3 st (d,A8 p.k p.name p.ch p.tg.l p.ex.l p.rep))::h) ?_);exact⟨a29,c29,rfl⟩;replace c22:=F7 c22;refine kQ2 [0,2,4,6,7,13,30] ?_;refine wc (fun c30=>?_) fun c30=>?_
 replace c30:=F9 c30;have e9:=A8.eq_1 p.k p.name p.ch p.tg.l p.ex.l p.rep;rw[if_neg c14,if_neg c22,if_pos c30] at e9;refine kA4 ?_;refine xg (E3 Et Ek Ef) (a2f 163 D8 [44] _ _ _ p.tg.l _ (hO.tg.rd.mono Vl Sb) (by omega) (fun x _=>Nat.le_trans (K3 x) (by decide)) (fun x hx h2 hh=>I8 hg x h2 ((hO.tg.ok x hx).mono (List.Sublist.trans Sb hh)))) ?_;rintro _ _ ⟨a36,c36,_,rfl,rfl,rfl⟩;refine xY M1 Eb fun b37=>?_
 refine xg (E1 Et) (C2 hg _ 1 _ [[58,61]] _ Rr (by decide) (by decide)) ?_;rintro _ _ ⟨a38,c38,_,rfl,rfl,rfl⟩;refine kA1 ?_;refine F3 (Ev.tmp rfl) (E1 Ek) (a0M hg b4 p [44] _ Me (hO.ex.mono Sb) hEx) Lb ?_;rintro _ _ ⟨a40,c40,_,rfl,rfl,rfl⟩;refine xY K7 Eb fun b41=>?_
 refine kR a36 fun p36 q36 r36=>?_
 refine kR a38 fun p38 q38 r38=>?_
 refine kR a40 fun p40 q40 r40=>?_
 refine WL.perm ((Del.perm (r:=prB b a c st) De).trans ((Del.perm (r:=prW a c st) De).cons _)) ?_;refine xg (E3 Et Et Et) (F8 hg hp b a c st d _ 3 _ [⟨a36,c36,C9 [44] D8 p.tg.l⟩,⟨a38,c38,[A1 [58,61]]⟩,⟨a40,c40,C9 [44] D8 p.ex.l⟩] (A8 p.k p.name p.ch p.tg.l p.ex.l p.rep) _ (Rd.ofPt rfl (by decide) Me) (B3 (iR r36 p36 q36) (B3 (iR r38 p38 q38) (B3 (iR r40 p40 q40) H1))) (by decide) (B3 (Y5 [44] p.tg.l (by omega)) (B3 (by simp) (B3 (Y5 [44] p.ex.l (by omega)) H1))) (by rw[e9];simp) (hT) hn) ?_;rintro _ _ ⟨a42,c42,rfl⟩;refine WL.nil (w0 (prB b a42 c42 (C3 st (d,A8 p.k p.name p.ch p.tg.l p.ex.l p.rep))::prW a42 c42 (C3 st (d,A8 p.k p.name p.ch p.tg.l p.ex.l p.rep))::h) ?_);exact⟨a42,c42,rfl⟩;replace c30:=F7 c30;refine kQ2 [0,2,4,6,7,13,43] ?_;refine wc (fun c43=>?_) fun c43=>?_
 replace c43:=F9 c43;have e9:=A8.eq_1 p.k p.name p.ch p.tg.l p.ex.l p.rep;rw[if_neg c14,if_neg c22,if_neg c30,if_pos c43] at e9;refine jE ?_;refine Z4 [4,5,6,4096] (.op 0 (.op 1 (.op 2 (.op 3 (.op 7 (.op 8 (.op 4 (.op 5 (.op 6 .nil))))))))) [9,10,11] _ [] D6 (fun _ _ _ h=>a0H h) [0,1] (by kernel_rfl) ?_;refine kA6 ?_;refine G4 rfl rfl Ef (E1 Et) (fun fr=>I8 hg p.ch _ (hO.ch.mono Sb)) Lb fun a49 c49=>?_
 refine sB rfl M1 fun b50=>?_
 refine G4 rfl rfl Ef (E1 (Ev.tmp rfl)) (fun fr=>C2 hg _ 1 _ [[63]] _ (Rd.fr Rr fr) (by decide) (by decide)) Lb fun a51 c51=>?_
 refine SR.nil rfl rfl ?_;refine xg (E3 Et Ek Ef) (a2f 163 D8 [59] _ _ _ p.tg.l _ (hO.tg.rd.mono Vl Sb) (by omega) (fun x _=>Nat.le_trans (K3 x) (by decide)) (fun x hx h2 hh=>I8 hg x h2 ((hO.tg.ok x hx).mono (List.Sublist.trans Sb hh)))) ?_;rintro _ _ ⟨a54,c54,_,rfl,rfl,rfl⟩;refine xY K7 Eb fun b55=>?_
 refine kR a49 fun p49 q49 r49=>?_
 refine kR a51 fun p51 q51 r51=>?_
 refine kR a54 fun p54 q54 r54=>?_
 refine WL.perm ((Del.perm (r:=prB b a c st) De).trans ((Del.perm (r:=prW a c st) De).cons _)) ?_;refine xg (E3 Et Et Et) (F8 hg hp b a c st d _ 3 _ [⟨a49,c49,D8 p.ch⟩,⟨a51,c51,[A1 [63]]⟩,⟨a54,c54,C9 [59] D8 p.tg.l⟩] (A8 p.k p.name p.ch p.tg.l p.ex.l p.rep) _ (Rd.ofPt rfl (by decide) Me) (B3 (iR r49 p49 q49) (B3 (iR r51 p51 q51) (B3 (iR r54 p54 q54) H1))) (by decide) (B3 (Nat.le_trans (K3 _) (by decide)) (B3 (by simp) (B3 (Y5 [59] p.tg.l (by omega)) H1))) (by rw[e9];simp) (hT) hn) ?_;rintro _ _ ⟨a56,c56,rfl⟩;refine WL.nil (w0 (prB b a56 c56 (C3 st (d,A8 p.k p.name p.ch p.tg.l p.ex.l p.rep))::prW a56 c56 (C3 st (d,A8 p.k p.name p.ch p.tg.l p.ex.l p.rep))::h) ?_);exact⟨a56,c56,rfl⟩;replace c43:=F7 c43;refine kQ2 [0,2,4,6,7,13,57] ?_;refine wc (fun c57=>?_) fun c57=>?_
 replace c57:=F9 c57;have e9:=A8.eq_1 p.k p.name p.ch p.tg.l p.ex.l p.rep;rw[if_neg c14,if_neg c22,if_neg c30,if_neg c43,if_pos c57] at e9;refine kA4 ?_;refine xg (E1 Et) (I8 hg p.ch _ (hO.ch.mono Sb)) ?_;rintro _ _ ⟨a63,c63,_,rfl,rfl,rfl⟩;refine xY M1 Eb fun b64=>?_
 refine xg (E1 Et) (C2 hg _ 1 _ [[33]] _ Rr (by decide) (by decide)) ?_;rintro _ _ ⟨a65,c65,_,rfl,rfl,rfl⟩;refine kA1 ?_;refine F3 (Ev.tmp rfl) (E1 Ek) (a0M hg b4 p [59] _ Me (hO.ex.mono Sb) hEx) Lb ?_;rintro _ _ ⟨a67,c67,_,rfl,rfl,rfl⟩;refine xY K7 Eb fun b68=>?_
 refine kR a63 fun p63 q63 r63=>?_
 refine kR a65 fun p65 q65 r65=>?_
 refine kR a67 fun p67 q67 r67=>?_
 refine WL.perm ((Del.perm (r:=prB b a c st) De).trans ((Del.perm (r:=prW a c st) De).cons _)) ?_;refine xg (E3 Et Et Et) (F8 hg hp b a c st d _ 3 _ [⟨a63,c63,D8 p.ch⟩,⟨a65,c65,[A1 [33]]⟩,⟨a67,c67,C9 [59] D8 p.ex.l⟩] (A8 p.k p.name p.ch p.tg.l p.ex.l p.rep) _ (Rd.ofPt rfl (by decide) Me) (B3 (iR r63 p63 q63) (B3 (iR r65 p65 q65) (B3 (iR r67 p67 q67) H1))) (by decide) (B3 (Nat.le_trans (K3 _) (by decide)) (B3 (by simp) (B3 (Y5 [59] p.ex.l (by omega)) H1))) (by rw[e9];simp) (hT) hn) ?_;rintro _ _ ⟨a69,c69,rfl⟩;refine WL.nil (w0 (prB b a69 c69 (C3 st (d,A8 p.k p.name p.ch p.tg.l p.ex.l p.rep))::prW a69 c69 (C3 st (d,A8 p.k p.name p.ch p.tg.l p.ex.l p.rep))::h) ?_);exact⟨a69,c69,rfl⟩;replace c57:=F7 c57;refine kQ2 [0,2,4,6,7,13,70] ?_;refine wc (fun c70=>?_) fun c70=>?_
 replace c70:=F9 c70;have e9:=A8.eq_1 p.k p.name p.ch p.tg.l p.ex.l p.rep;rw[if_neg c14,if_neg c22,if_neg c30,if_neg c43,if_neg c57,if_pos c70] at e9;refine kA4 ?_;refine xg (E1 Et) (I8 hg p.ch _ (hO.ch.mono Sb)) ?_;rintro _ _ ⟨a76,c76,_,rfl,rfl,rfl⟩;refine xY M1 Eb fun b77=>?_
 refine xg (E1 Et) (C2 hg _ 2 _ [[63],[65,70,84,69,82]] _ Rr (by decide) (by decide)) ?_;rintro _ _ ⟨a78,c78,_,rfl,rfl,rfl⟩;refine kA1 ?_;refine F3 (Ev.tmp rfl) (E1 Ek) (a0M hg b4 p [] _ Me (hO.ex.mono Sb) hEx) Lb ?_;rintro _ _ ⟨a80,c80,_,rfl,rfl,rfl⟩;refine xY K7 Eb fun b81=>?_
 refine kR a76 fun p76 q76 r76=>?_
 refine kR a78 fun p78 q78 r78=>?_
 refine kR a80 fun p80 q80 r80=>?_
 refine WL.perm ((Del.perm (r:=prB b a c st) De).trans ((Del.perm (r:=prW a c st) De).cons _)) ?_;refine xg (E3 Et Et Et) (F8 hg hp b a c st d _ 3 _ [⟨a76,c76,D8 p.ch⟩,⟨a78,c78,[A1 [63],A1 [65,70,84,69,82]]⟩,⟨a80,c80,C9 [] D8 p.ex.l⟩] (A8 p.k p.name p.ch p.tg.l p.ex.l p.rep) _ (Rd.ofPt rfl (by decide) Me) (B3 (iR r76 p76 q76) (B3 (iR r78 p78 q78) (B3 (iR r80 p80 q80) H1))) (by decide) (B3 (Nat.le_trans (K3 _) (by decide)) (B3 (by simp) (B3 (Y5 [] p.ex.l (by omega)) H1))) (by rw[e9];simp) (hT) hn) ?_;rintro _ _ ⟨a82,c82,rfl⟩;refine WL.nil (w0 (prB b a82 c82 (C3 st (d,A8 p.k p.name p.ch p.tg.l p.ex.l p.rep))::prW a82 c82 (C3 st (d,A8 p.k p.name p.ch p.tg.l p.ex.l p.rep))::h) ?_);exact⟨a82,c82,rfl⟩;replace c70:=F7 c70;refine kQ2 [0,2,4,6,7,13,83] ?_;refine wc (fun c83=>?_) fun c83=>?_
 replace c83:=F9 c83;have e9:=A8.eq_1 p.k p.name p.ch p.tg.l p.ex.l p.rep;rw[if_neg c14,if_neg c22,if_neg c30,if_neg c43,if_neg c57,if_neg c70,if_pos c83] at e9;refine kA4 ?_;refine xg (E1 Et) (I8 hg p.ch _ (hO.ch.mono Sb)) ?_;rintro _ _ ⟨a89,c89,_,rfl,rfl,rfl⟩;refine xY M1 Eb fun b90=>?_
 refine xg (E1 Et) (C2 hg _ 2 _ [[63],[67,65,83,69]] _ Rr (by decide) (by decide)) ?_;rintro _ _ ⟨a91,c91,_,rfl,rfl,rfl⟩;refine xY K7 Eb fun b92=>?_
 refine kR a89 fun p89 q89 r89=>?_
 refine kR a91 fun p91 q91 r91=>?_
 refine WL.perm ((Del.perm (r:=prB b a c st) De).trans ((Del.perm (r:=prW a c st) De).cons _)) ?_;refine xg (E3 Et Et Et) (F8 hg hp b a c st d _ 2 _ [⟨a89,c89,D8 p.ch⟩,⟨a91,c91,[A1 [63],A1 [67,65,83,69]]⟩] (A8 p.k p.name p.ch p.tg.l p.ex.l p.rep) _ (Rd.ofPt rfl (by decide) Me) (B3 (iR r89 p89 q89) (B3 (iR r91 p91 q91) H1)) (by decide) (B3 (Nat.le_trans (K3 _) (by decide)) (B3 (by simp) H1)) (by rw[e9];simp) (hT) hn) ?_;rintro _ _ ⟨a93,c93,rfl⟩;refine WL.nil (w0 (prB b a93 c93 (C3 st (d,A8 p.k p.name p.ch p.tg.l p.ex.l p.rep))::prW a93 c93 (C3 st (d,A8 p.k p.name p.ch p.tg.l p.ex.l p.rep))::h) ?_);exact⟨a93,c93,rfl⟩;replace c83:=F7 c83;refine kQ2 [0,2,4,6,7,13,94] ?_;refine wc (fun c94=>?_) fun c94=>?_
 replace c94:=F9 c94;have e9:=A8.eq_1 p.k p.name p.ch p.tg.l p.ex.l p.rep;rw[if_neg c14,if_neg c22,if_neg c30,if_neg c43,if_neg c57,if_neg c70,if_neg c83,if_pos c94] at e9;refine kA2 ?_;refine xY M1 Eb fun b98=>?_
 refine xg (E1 Et) (C2 hg _ 1 _ [[83,69,81]] _ Rr (by decide) (by decide)) ?_;rintro _ _ ⟨a99,c99,_,rfl,rfl,rfl⟩;refine kA1 ?_;refine xY K7 Eb fun b101=>?_
 refine kR a99 fun p99 q99 r99=>?_
 refine kR a10 fun p10 q10 r10=>?_
 refine WL.perm ((Del.perm (r:=prB b a c st) De).trans ((Del.perm (r:=prW a c st) De).cons _)) ?_;refine xg (E3 Et Et Et) (F8 hg hp b a c st d _ 2 _ [⟨a99,c99,[A1 [83,69,81]]⟩,⟨a10,c10,a1q p.rep⟩] (A8 p.k p.name p.ch p.tg.l p.ex.l p.rep) _ (Rd.ofPt rfl (by decide) Me) (B3 (iR r99 p99 q99) (B3 (iR r10 p10 q10) H1)) (by decide) (B3 (by simp) (B3 (a6E p.rep) H1)) (by rw[e9];simp) (hT) hn) ?_;rintro _ _ ⟨a102,c102,rfl⟩;refine WL.nil (w0 (prB b a102 c102 (C3 st (d,A8 p.k p.name p.ch p.tg.l p.ex.l p.rep))::prW a102 c102 (C3 st (d,A8 p.k p.name p.ch p.tg.l p.ex.l p.rep))::h) ?_);exact⟨a102,c102,rfl⟩;replace c94:=F7 c94;refine kQ2 [0,2,4,6,7,13,103] ?_;refine wc (fun c103=>?_) fun c103=>?_
 replace c103:=F9 c103;have e9:=A8.eq_1 p.k p.name p.ch p.tg.l p.ex.l p.rep;rw[if_neg c14,if_neg c22,if_neg c30,if_neg c43,if_neg c57,if_neg c70,if_neg c83,if_neg c94,if_pos c103] at e9;refine kA2 ?_;refine xY M1 Eb fun b107=>?_
 refine xg (E1 Et) (C2 hg _ 1 _ [[80,65,82]] _ Rr (by decide) (by decide)) ?_;rintro _ _ ⟨a108,c108,_,rfl,rfl,rfl⟩;refine kA1 ?_;refine xY K7 Eb fun b110=>?_
 refine kR a108 fun p108 q108 r108=>?_
 refine kR a10 fun p10 q10 r10=>?_
 refine WL.perm ((Del.perm (r:=prB b a c st) De).trans ((Del.perm (r:=prW a c st) De).cons _)) ?_;refine xg (E3 Et Et Et) (F8 hg hp b a c st d _ 2 _ [⟨a108,c108,[A1 [80,65,82]]⟩,⟨a10,c10,a1q p.rep⟩] (A8 p.k p.name p.ch p.tg.l p.ex.l p.rep) _ (Rd.ofPt rfl (by decide) Me) (B3 (iR r108 p108 q108) (B3 (iR r10 p10 q10) H1)) (by decide) (B3 (by simp) (B3 (a6E p.rep) H1)) (by rw[e9];simp) (hT) hn) ?_;rintro _ _ ⟨a111,c111,rfl⟩;refine WL.nil (w0 (prB b a111 c111 (C3 st (d,A8 p.k p.name p.ch p.tg.l p.ex.l p.rep))::prW a111 c111 (C3 st (d,A8 p.k p.name p.ch p.tg.l p.ex.l p.rep))::h) ?_);exact⟨a111,c111,rfl⟩;replace c103:=F7 c103;refine kQ2 [0,2,4,6,7,13,112] ?_;refine wc (fun c112=>?_) fun c112=>?_
 replace c112:=F9 c112;have e9:=A8.eq_1 p.k p.name p.ch p.tg.l p.ex.l p.rep;rw[if_neg c14,if_neg c22,if_neg c30,if_neg c43,if_neg c57,if_neg c70,if_neg c83,if_neg c94,if_neg c103,if_pos c112] at e9;refine kA2 ?_;refine xY M1 Eb fun b116=>?_
 refine xg (E1 Et) (C2 hg _ 2 _ [[80,82,73],[80,65,82]] _ Rr (by decide) (by decide)) ?_;rintro _ _ ⟨a117,c117,_,rfl,rfl,rfl⟩;refine xY K7 Eb fun b118=>?_
 refine kR a117 fun p117 q117 r117=>?_
 refine WL.perm ((Del.perm (r:=prB b a c st) De).trans ((Del.perm (r:=prW a c st) De).cons _)) ?_;refine xg (E3 Et Et Et) (F8 hg hp b a c st d _ 1 _ [⟨a117,c117,[A1 [80,82,73],A1 [80,65,82]]⟩] (A8 p.k p.name p.ch p.tg.l p.ex.l p.rep) _ (Rd.ofPt rfl (by decide) Me) (B3 (iR r117 p117 q117) H1) (by decide) (B3 (by simp) H1) (by rw[e9];simp) (hT) hn) ?_;rintro _ _ ⟨a119,c119,rfl⟩;refine WL.nil (w0 (prB b a119 c119 (C3 st (d,A8 p.k p.name p.ch p.tg.l p.ex.l p.rep))::prW a119 c119 (C3 st (d,A8 p.k p.name p.ch p.tg.l p.ex.l p.rep))::h) ?_);exact⟨a119,c119,rfl⟩;replace c112:=F7 c112;refine kQ2 [0,2,4,6,7,13,120] ?_;refine wc (fun c120=>?_) fun c120=>?_
 replace c120:=F9 c120;have e9:=A8.eq_1 p.k p.name p.ch p.tg.l p.ex.l p.rep;rw[if_neg c14,if_neg c22,if_neg c30,if_neg c43,if_neg c57,if_neg c70,if_neg c83,if_neg c94,if_neg c103,if_neg c112,if_pos c120] at e9;refine kA2 ?_;refine xY M1 Eb fun b124=>?_
 refine xg (E1 Et) (C2 hg _ 2 _ [[80,76,65,67,69,68],[80,65,82]] _ Rr (by decide) (by decide)) ?_;rintro _ _ ⟨a125,c125,_,rfl,rfl,rfl⟩;refine xY K7 Eb fun b126=>?_
 refine kR a125 fun p125 q125 r125=>?_
 refine WL.perm ((Del.perm (r:=prB b a c st) De).trans ((Del.perm (r:=prW a c st) De).cons _)) ?_;refine xg (E3 Et Et Et) (F8 hg hp b a c st d _ 1 _ [⟨a125,c125,[A1 [80,76,65,67,69,68],A1 [80,65,82]]⟩] (A8 p.k p.name p.ch p.tg.l p.ex.l p.rep) _ (Rd.ofPt rfl (by decide) Me) (B3 (iR r125 p125 q125) H1) (by decide) (B3 (by simp) H1) (by rw[e9];simp) (hT) hn) ?_;rintro _ _ ⟨a127,c127,rfl⟩;refine WL.nil (w0 (prB b a127 c127 (C3 st (d,A8 p.k p.name p.ch p.tg.l p.ex.l p.rep))::prW a127 c127 (C3 st (d,A8 p.k p.name p.ch p.tg.l p.ex.l p.rep))::h) ?_);exact⟨a127,c127,rfl⟩;replace c120:=F7 c120;refine kQ2 [0,2,4,6,7,13,128] ?_;refine wc (fun c128=>?_) fun c128=>?_
 replace c128:=F9 c128;have e9:=A8.eq_1 p.k p.name p.ch p.tg.l p.ex.l p.rep;rw[if_neg c14,if_neg c22,if_neg c30,if_neg c43,if_neg c57,if_neg c70,if_neg c83,if_neg c94,if_neg c103,if_neg c112,if_neg c120,if_pos c128] at e9;refine kA2 ?_;refine xY M1 Eb fun b132=>?_
 refine xg (E1 Et) (C2 hg _ 1 _ [[65,76,84]] _ Rr (by decide) (by decide)) ?_;rintro _ _ ⟨a133,c133,_,rfl,rfl,rfl⟩;refine kA1 ?_;refine xY K7 Eb fun b135=>?_
 refine kR a133 fun p133 q133 r133=>?_
 refine kR a10 fun p10 q10 r10=>?_
 refine WL.perm ((Del.perm (r:=prB b a c st) De).trans ((Del.perm (r:=prW a c st) De).cons _)) ?_;refine xg (E3 Et Et Et) (F8 hg hp b a c st d _ 2 _ [⟨a133,c133,[A1 [65,76,84]]⟩,⟨a10,c10,a1q p.rep⟩] (A8 p.k p.name p.ch p.tg.l p.ex.l p.rep) _ (Rd.ofPt rfl (by decide) Me) (B3 (iR r133 p133 q133) (B3 (iR r10 p10 q10) H1)) (by decide) (B3 (by simp) (B3 (a6E p.rep) H1)) (by rw[e9];simp) (hT) hn) ?_;rintro _ _ ⟨a136,c136,rfl⟩;refine WL.nil (w0 (prB b a136 c136 (C3 st (d,A8 p.k p.name p.ch p.tg.l p.ex.l p.rep))::prW a136 c136 (C3 st (d,A8 p.k p.name p.ch p.tg.l p.ex.l p.rep))::h) ?_);exact⟨a136,c136,rfl⟩;replace c128:=F7 c128;refine kQ2 [0,2,4,6,7,13,137] ?_;refine wc (fun c137=>?_) fun c137=>?_
 replace c137:=F9 c137;have e9:=A8.eq_1 p.k p.name p.ch p.tg.l p.ex.l p.rep;rw[if_neg c14,if_neg c22,if_neg c30,if_neg c43,if_neg c57,if_neg c70,if_neg c83,if_neg c94,if_neg c103,if_neg c112,if_neg c120,if_neg c128,if_pos c137] at e9;refine kA2 ?_;refine xY M1 Eb fun b141=>?_
 refine xg (E1 Et) (C2 hg _ 2 _ [[80,82,73],[65,76,84]] _ Rr (by decide) (by decide)) ?_;rintro _ _ ⟨a142,c142,_,rfl,rfl,rfl⟩;refine kA1 ?_;refine xY K7 Eb fun b144=>?_
 refine kR a142 fun p142 q142 r142=>?_
 refine kR a10 fun p10 q10 r10=>?_
 refine WL.perm ((Del.perm (r:=prB b a c st) De).trans ((Del.perm (r:=prW a c st) De).cons _)) ?_;refine xg (E3 Et Et Et) (F8 hg hp b a c st d _ 2 _ [⟨a142,c142,[A1 [80,82,73],A1 [65,76,84]]⟩,⟨a10,c10,a1q p.rep⟩] (A8 p.k p.name p.ch p.tg.l p.ex.l p.rep) _ (Rd.ofPt rfl (by decide) Me) (B3 (iR r142 p142 q142) (B3 (iR r10 p10 q10) H1)) (by decide) (B3 (by simp) (B3 (a6E p.rep) H1)) (by rw[e9];simp) (hT) hn) ?_;rintro _ _ ⟨a145,c145,rfl⟩;refine WL.nil (w0 (prB b a145 c145 (C3 st (d,A8 p.k p.name p.ch p.tg.l p.ex.l p.rep))::prW a145 c145 (C3 st (d,A8 p.k p.name p.ch p.tg.l p.ex.l p.rep))::h) ?_);exact⟨a145,c145,rfl⟩;replace c137:=F7 c137;refine kQ2 [0,2,4,6,7,13,146] ?_;refine wc (fun c146=>?_) fun c146=>?_
 replace c146:=F9 c146;have e9:=A8.eq_1 p.k p.name p.ch p.tg.l p.ex.l p.rep;rw[if_neg c14,if_neg c22,if_neg c30,if_neg c43,if_neg c57,if_neg c70,if_neg c83,if_neg c94,if_neg c103,if_neg c112,if_neg c120,if_neg c128,if_neg c137,if_pos c146] at e9;refine kA2 ?_;refine xY M1 Eb fun b150=>?_
 refine xg (E1 Et) (C2 hg _ 1 _ [[73,70]] _ Rr (by decide) (by decide)) ?_;rintro _ _ ⟨a151,c151,_,rfl,rfl,rfl⟩;refine kA1 ?_;refine xY K7 Eb fun b153=>?_
 refine kR a151 fun p151 q151 r151=>?_
 refine kR a10 fun p10 q10 r10=>?_
 refine WL.perm ((Del.perm (r:=prB b a c st) De).trans ((Del.perm (r:=prW a c st) De).cons _)) ?_;refine xg (E3 Et Et Et) (F8 hg hp b a c st d _ 2 _ [⟨a151,c151,[A1 [73,70]]⟩,⟨a10,c10,a1q p.rep⟩] (A8 p.k p.name p.ch p.tg.l p.ex.l p.rep) _ (Rd.ofPt rfl (by decide) Me) (B3 (iR r151 p151 q151) (B3 (iR r10 p10 q10) H1)) (by decide) (B3 (by simp) (B3 (a6E p.rep) H1)) (by rw[e9];simp) (hT) hn) ?_;rintro _ _ ⟨a154,c154,rfl⟩;refine WL.nil (w0 (prB b a154 c154 (C3 st (d,A8 p.k p.name p.ch p.tg.l p.ex.l p.rep))::prW a154 c154 (C3 st (d,A8 p.k p.name p.ch p.tg.l p.ex.l p.rep))::h) ?_);exact⟨a154,c154,rfl⟩;replace c146:=F7 c146;refine kQ2 [0,2,4,7,13,155] ?_;refine wc (fun c155=>?_) fun c155=>?_
 replace c155:=F9 c155;have e9:=A8.eq_1 p.k p.name p.ch p.tg.l p.ex.l p.rep;rw[if_neg c14,if_neg c22,if_neg c30,if_neg c43,if_neg c57,if_neg c70,if_neg c83,if_neg c94,if_neg c103,if_neg c112,if_neg c120,if_neg c128,if_neg c137,if_neg c146,if_pos c155] at e9;refine kA2 ?_;refine xY M1 Eb fun b159=>?_
 refine xg (E1 Et) (C2 hg _ 1 _ [[67,65,83,69]] _ Rr (by decide) (by decide)) ?_;rintro _ _ ⟨a160,c160,_,rfl,rfl,rfl⟩;refine kA1 ?_;refine F3 (Ev.tmp rfl) (E1 Ek) (a0M hg b4 p [] _ Me (hO.ex.mono Sb) hEx) Lb ?_;rintro _ _ ⟨a162,c162,_,rfl,rfl,rfl⟩;refine xY K7 Eb fun b163=>?_
 refine kR a160 fun p160 q160 r160=>?_
 refine kR a162 fun p162 q162 r162=>?_
 refine WL.perm ((Del.perm (r:=prB b a c st) De).trans ((Del.perm (r:=prW a c st) De).cons _)) ?_;refine xg (E3 Et Et Et) (F8 hg hp b a c st d _ 2 _ [⟨a160,c160,[A1 [67,65,83,69]]⟩,⟨a162,c162,C9 [] D8 p.ex.l⟩] (A8 p.k p.name p.ch p.tg.l p.ex.l p.rep) _ (Rd.ofPt rfl (by decide) Me) (B3 (iR r160 p160 q160) (B3 (iR r162 p162 q162) H1)) (by decide) (B3 (by simp) (B3 (Y5 [] p.ex.l (by omega)) H1)) (by rw[e9];simp) (hT) hn) ?_;rintro _ _ ⟨a164,c164,rfl⟩;refine WL.nil (w0 (prB b a164 c164 (C3 st (d,A8 p.k p.name p.ch p.tg.l p.ex.l p.rep))::prW a164 c164 (C3 st (d,A8 p.k p.name p.ch p.tg.l p.ex.l p.rep))::h) ?_);exact⟨a164,c164,rfl⟩;replace c155:=F7 c155;refine kQ2 [0,2,4,7,13,165] ?_;refine wc (fun c165=>?_) fun c165=>?_
 replace c165:=F9 c165;have e9:=A8.eq_1 p.k p.name p.ch p.tg.l p.ex.l p.rep;rw[if_neg c14,if_neg c22,if_neg c30,if_neg c43,if_neg c57,if_neg c70,if_neg c83,if_neg c94,if_neg c103,if_neg c112,if_neg c120,if_neg c128,if_neg c137,if_neg c146,if_neg c155,if_pos c165] at e9;refine kA2 ?_;refine xY M1 Eb fun b169=>?_
 refine xg (E1 Et) (C2 hg _ 1 _ [[87,72,73,76,69]] _ Rr (by decide) (by decide)) ?_;rintro _ _ ⟨a170,c170,_,rfl,rfl,rfl⟩;refine kA1 ?_;refine F3 (Ev.tmp rfl) (E1 Ek) (a0M hg b4 p [] _ Me (hO.ex.mono Sb) hEx) Lb ?_;rintro _ _ ⟨a172,c172,_,rfl,rfl,rfl⟩;refine xY K7 Eb fun b173=>?_
 refine kR a170 fun p170 q170 r170=>?_
 refine kR a172 fun p172 q172 r172=>?_
 refine WL.perm ((Del.perm (r:=prB b a c st) De).trans ((Del.perm (r:=prW a c st) De).cons _)) ?_;refine xg (E3 Et Et Et) (F8 hg hp b a c st d _ 2 _ [⟨a170,c170,[A1 [87,72,73,76,69]]⟩,⟨a172,c172,C9 [] D8 p.ex.l⟩] (A8 p.k p.name p.ch p.tg.l p.ex.l p.rep) _ (Rd.ofPt rfl (by decide) Me) (B3 (iR r170 p170 q170) (B3 (iR r172 p172 q172) H1)) (by decide) (B3 (by simp) (B3 (Y5 [] p.ex.l (by omega)) H1)) (by rw[e9];simp) (hT) hn) ?_;rintro _ _ ⟨a174,c174,rfl⟩;refine WL.nil (w0 (prB b a174 c174 (C3 st (d,A8 p.k p.name p.ch p.tg.l p.ex.l p.rep))::prW a174 c174 (C3 st (d,A8 p.k p.name p.ch p.tg.l p.ex.l p.rep))::h) ?_);exact⟨a174,c174,rfl⟩;replace c165:=F7 c165;refine kQ2 [0,2,4,7,175] ?_;refine wc (fun c175=>?_) fun c175=>?_
 replace c175:=F9 c175;have e9:=A8.eq_1 p.k p.name p.ch p.tg.l p.ex.l p.rep;rw[if_neg c14,if_neg c22,if_neg c30,if_neg c43,if_neg c57,if_neg c70,if_neg c83,if_neg c94,if_neg c103,if_neg c112,if_neg c120,if_neg c128,if_neg c137,if_neg c146,if_neg c155,if_neg c165] at e9;refine kA4 ?_;refine xg (E1 Et) (a1o p.name _ _) ?_;rintro _ _ ⟨a181,c181,_,rfl,rfl,rfl⟩;refine xY M1 Eb fun b182=>?_
 refine xg (E1 Et) (C2 hg _ 1 _ [[40]] _ Rr (by decide) (by decide)) ?_;rintro _ _ ⟨a183,c183,_,rfl,rfl,rfl⟩;refine kA1 ?_;refine F3 (Ev.tmp rfl) (E1 Ek) (a0M hg b4 p [44] _ Me (hO.ex.mono Sb) hEx) Lb ?_;rintro _ _ ⟨a185,c185,_,rfl,rfl,rfl⟩;refine xY M1 Eb fun b186=>?_
 refine xg (E1 Et) (C2 hg _ 1 _ [[41]] _ Rr (by decide) (by decide)) ?_;rintro _ _ ⟨a187,c187,_,rfl,rfl,rfl⟩;refine xY K7 Eb fun b188=>?_
 refine kR a181 fun p181 q181 r181=>?_
 refine kR a183 fun p183 q183 r183=>?_
 refine kR a185 fun p185 q185 r185=>?_
 refine kR a187 fun p187 q187 r187=>?_
 refine WL.perm ((Del.perm (r:=prB b a c st) De).trans ((Del.perm (r:=prW a c st) De).cons _)) ?_;refine xg (E3 Et Et Et) (F8 hg hp b a c st d _ 4 _ [⟨a181,c181,[N6 p.name]⟩,⟨a183,c183,[A1 [40]]⟩,⟨a185,c185,C9 [44] D8 p.ex.l⟩,⟨a187,c187,[A1 [41]]⟩] (A8 p.k p.name p.ch p.tg.l p.ex.l p.rep) _ (Rd.ofPt rfl (by decide) Me) (B3 (iR r181 p181 q181) (B3 (iR r183 p183 q183) (B3 (iR r185 p185 q185) (B3 (iR r187 p187 q187) H1)))) (by decide) (B3 (by simp) (B3 (by simp) (B3 (Y5 [44] p.ex.l (by omega)) (B3 (by simp) H1)))) (by rw[e9];simp) (hT) hn) ?_;rintro _ _ ⟨a189,c189,rfl⟩;refine WL.nil (w0 (prB b a189 c189 (C3 st (d,A8 p.k p.name p.ch p.tg.l p.ex.l p.rep))::prW a189 c189 (C3 st (d,A8 p.k p.name p.ch p.tg.l p.ex.l p.rep))::h) ?_);exact⟨a189,c189,rfl⟩;replace c175:=F7 c175;omega
end
section
open Go.Eng Go.Pc Go.Sx Go
open Go.Xp hiding B D5
open Go.Ty (Ty Vr Tok eqT tyV I4 B2 B4 R1 zeroK L7 D3 encV D7 prL prV PrOk VOk mayPr hdV)
open Go.Lx (encB C4 textO)
open Go.Ly (Rw O6 G8)
theorem a0D:TkL []:=fun _ hx=>(List.not_mem_nil hx).elim
theorem G0 {a b:List Tok} (ha:TkL a) (hb:TkL b):TkL (a++b):=fun x hx=>(List.mem_append.1 hx).elim (ha x) (hb x)
theorem a5S {t:Tok} {b:List Tok} (ha:TkL [t]) (hb:TkL b):TkL (t::b):=fun x hx=>(List.mem_cons.1 hx).elim (fun e=>ha x (List.mem_singleton.2 e)) (hb x)
theorem a2M {k p:Int} {s:B} (h:s.length<=Big):TkL [⟨k,p.toNat,s,0⟩]:=fun x hx=>by
 rw[List.mem_singleton] at hx;subst hx;exact⟨(show(-2147483648:Int)<=0/\(0:Int)<=2147483647 by decide),h⟩
theorem T7 {s:B} (h:s.length<=Big):TkL [A1 s]:=by
 unfold A1;split
 ·exact a2M (p:=0) h
 ·exact a2M (p:=0) h
theorem a8K {s:B} (h:s.length<=Big):TkL [N6 s]:=a2M (p:=0) h
theorem a1H {m:View} {h:List Res} {e:Ex} (q:EOk m h e):TkL (D8 e):=by
 unfold D8;split
 ·rename_i hm
  exact fun x hx=>⟨(a8V e (a5g hm).1 q.w x hx).2,by have:=Go.Lx.may_len (a8V e (a5g hm).1 q.w x hx).1;omega⟩
 ·exact a0D
theorem b1G {α:Type} {sep:B} (hs:sep.length<=Big) {f:α->List Tok}:∀ {l:List α},(∀ x ∈ l,TkL (f x))->TkL (C9 sep f l)
 | [],_=>a0D
 | [x],h=>h x (List.Mem.head _)
 | x::_::_,h=>G0 (h x (List.Mem.head _)) (a5S (a2M (p:=0) hs) (b1G hs fun z hz=>h z (List.Mem.tail _ hz)))
theorem a1s {m:View} {h:List Res} {sep:B} (hs:sep.length<=Big) {s:Sli Ex} (q:LOk m h s):TkL (C9 sep D8 s.l):=b1G hs fun x hx=>a1H (q.ok x hx)
theorem c0P {s:B} (hs:s.length<=Big) {l:List Tok} (q:TkL l):TkL (a1E s l):=by
 unfold a1E;split
 ·exact a0D
 ·exact a5S (T7 hs) q
theorem c3A {m:View} {h:List Res} {r:Rp} (q:Rs m h r):TkL (a1q r):=by
 unfold a1q;split
 ·exact a0D
 ·exact G0 (G0 (G0 (G0 (a8K q.n) (T7 (by decide))) (a1H q.b)) (T7 (by decide))) (a1H q.c)
theorem M8 {c:Prop} [Decidable c] {a b:List Tok} (ha:TkL a) (hb:TkL b):TkL (if c then a else b):=by
 split
 ·exact ha
 ·exact hb
theorem b5e {m:View} {h:List Res} {p:Pr} (q:P1 m h p):TkL (A8 p.k p.name p.ch p.tg.l p.ex.l p.rep):=by
 have hr:TkL (a1q p.rep):=c3A (m:=m) (h:=h) ⟨q.rn,q.rb,q.rc⟩;have w1:∀ {s:B},s.length<=1000->TkL [A1 s]:=fun h=>T7 (Nat.le_trans h (by decide))
 have w2:∀ {s t:B},s.length<=1000->t.length<=1000->TkL [A1 s,A1 t]:=fun h h2=>a5S (w1 h) (w1 h2)
 unfold A8;exact M8 (w1 (by decide)) (M8 (w1 (by decide)) (M8 (G0 (G0 (a1s (by decide) q.tg) (w1 (by decide))) (a1s (by decide) q.ex)) (M8 (G0 (G0 (a1H q.ch) (w1 (by decide))) (a1s (by decide) q.tg)) (M8 (G0 (G0 (a1H q.ch) (w1 (by decide))) (a1s (by decide) q.ex)) (M8 (G0 (G0 (a1H q.ch) (w2 (by decide) (by decide))) (a1s (by decide) q.ex)) (M8 (G0 (a1H q.ch) (w2 (by decide) (by decide))) (M8 (G0 (w1 (by decide)) hr) (M8 (G0 (w1 (by decide)) hr) (M8 (w2 (by decide) (by decide)) (M8 (w2 (by decide) (by decide)) (M8 (G0 (w1 (by decide)) hr) (M8 (G0 (w2 (by decide) (by decide)) hr) (M8 (G0 (w1 (by decide)) hr) (M8 (G0 (w1 (by decide)) (a1s (by decide) q.ex)) (M8 (G0 (w1 (by decide)) (a1s (by decide) q.ex)) (G0 (G0 (G0 (a8K q.n) (w1 (by decide))) (a1s (by decide) q.ex)) (w1 (by decide))))))))))))))))))
theorem a7C {m:View} {h:List Res} {e:Ex} (q:EOk m h e):TkL (a00 e):=by
 unfold a00;split
 ·exact a0D
 ·exact G0 (a1H q) (a2M (p:=0) (by decide))
theorem b4C {m:View} {h:List Res} {g:Gu} (q:GOk m h g):TkL (G9 g.k g.name g.cond g.ch g.tg.l g.vl.l g.time):=by
 have w1:∀ {s:B},s.length<=1000->TkL [A1 s]:=fun h=>T7 (Nat.le_trans h (by decide))
 unfold G9;exact M8 (a1H q.cond) (M8 (G0 (a7C q.cond) (w1 (by decide))) (M8 (G0 (G0 (G0 (a7C q.cond) (a1H q.ch)) (w1 (by decide))) (a1s (by decide) q.tg)) (M8 (G0 (G0 (G0 (a7C q.cond) (a1H q.ch)) (a5S (w1 (by decide)) (w1 (by decide)))) (a1H q.time)) (M8 (a1s (by decide) q.vl) (M8 (w1 (by decide)) (G0 (a8K q.n) (c0P (by decide) (a1s (by decide) q.tg))))))))
theorem a9S (e:Ex):(a00 e).length<=30000:=by
 unfold a00;have:=K3 e;split
 ·exact Nat.zero_le _
 ·rw[List.length_append]
  simp only[List.length_singleton];omega
theorem b3u (s:B) {l:List Tok} (h:l.length<=25000):(a1E s l).length<=30000:=by
 unfold a1E;split
 ·exact Nat.zero_le _
 ·simp only[List.length_cons]
  omega
theorem a5m (sep:B) (l:List Ex) (h:l.length<=9):(C9 sep D8 l).length<=25000:=by
 have h1:=a2e sep D8 2000 l fun x _=>K3 x
 have h2:l.length * 2001<=9 * 2001:=Nat.mul_le_mul_right _ h;omega
theorem b7w {g:Gu} (h:guP g=true) (h0:0<=g.k):(1<=g.k/\g.k<=7)/\g.bl.length=1/\g.tg.l.length<=8/\g.vl.l.length<=8:=by
 unfold guP at h;simp only[Bool.and_eq_true,bne_iff_ne,ne_eq,decide_eq_true_eq,beq_iff_eq] at h;obtain⟨⟨⟨⟨⟨⟨⟨⟨h1,h2⟩,h3⟩,-⟩,-⟩,-⟩,-⟩,h4⟩,h5⟩:=h;have h4:=(T0 h4).2.2;have h5:=(T0 h5).2.2;refine⟨⟨by omega,h2⟩,by omega,?_,?_⟩
 ·have:(if g.k=3 then (8:Int) else if g.k=7 then 8 else 0)<=8:=by repeat' split <;> omega
  omega
 ·have:(if g.k=5 then (8:Int) else 0)<=8:=by split <;> omega
  omega
theorem b4j (g:Gu) (d:Int):W6 g d=(d,G9 g.k g.name g.cond g.ch g.tg.l g.vl.l g.time)::a0W g.bl (d+1):=by cases g;rfl
abbrev PRC (m:View) (p:Pr):Prop:=∀ (b:Nat) (a:Option Addr) (c:Nat) (st:Ps) (d:Int) (h:List Res),POk m h p->Vld p->(0<=d/\d+2 * (Q8 p:Int)<=100000)->st.1.length<=2049 ->
 CT Tryz.prog 54 [ptV b,prV p,.int .i64 d] (prB b a c st::prW a c st::h) m (fun _ _ h'=>PrR b h (B5 st (I3 p d)) h')
set_option maxHeartbeats 4000000 in
theorem b4x {m:View} (hg:Glob m) (hp:Pow m) (g:Gu) (b:Nat) (a:Option Addr) (c:Nat) (st:Ps) (d:Int) (h:List Res) (hO:GOk m h g) (hu:guP g=true) (hS:∀ x ∈ g.bl,POk m h x/\Vld x/\PRC m x/\d+1+2 * (Q8 x:Int)<=100000) (hd:0<=d/\d<=100000) (hn:st.1.length<=2049) :
 CT Tryz.prog 108 [ptV b,guV g,.int .i64 d] (prB b a c st::prW a c st::h) m (fun _ _ h'=>PrR b h (B5 st (W6 g d)) h'):=by
 obtain⟨hk,hbl,hTg,hVl⟩:=b7w hu hO.k.1;have hT:=b4C hO;have hrb:=hO.b;obtain⟨y,hy⟩:=A5 (l:=g.bl) (k:=0) (by omega);have hym:=List.mem_of_getElem? hy;obtain⟨hy1,hy2,hy3,hy4⟩:=hS y hym;have hcy:=a5h y;have hlg:W6 g d=(d,G9 g.k g.name g.cond g.ch g.tg.l g.vl.l g.time)::I3 y (d+1):=by
  have e:g.bl=[y]:=by
   cases hb:g.bl with
   | nil=>rw[hb] at hy;cases hy
   | cons z r=>
    rw[hb] at hy hbl;cases hy;cases r with
    | nil=>rfl
    | cons u v=>simp at hbl
  rw[b4j,e];rfl
 refine CT.body Tryz.call108 Tryz.func108 rfl Tryz.ntmps108 Lb rfl ?_;refine j0 ?_;refine xX fun b4=>?_
 refine kQ0 [0,2,4] ?_;refine WL.addNil 120 4 ?_;refine kQ1 [0,2,4,6] ?_;refine kA2 ?_;refine xf (E1 Et) (a1x g.cond (hO.cond.t.mono Sb)) ?_;refine kP1 [0,2,4,6,11] ?_;refine H9 KKh [0,2,4] rfl (fun F' h'=>∃ a6:Option Addr,∃ c6:Nat,∃ L:List Tok,(L=a00 g.cond)/\F'=[(6,.slice a6 L.length c6)]/\.row (.slice a6 L.length c6) 120 4 L.length (fl B2 L)::.pt b4 (.cells (guE g).toArray 102 (0,0))::prB b a c st::prW a c st::h=h') ?_ ?_;refine jE ?_;refine wc (fun c11=>?_) fun c11=>?_
 have e11:a00 g.cond=D8 g.cond++[⟨5,0,[38],0⟩]:=by unfold a00;rw[if_neg (by simpa using c11)]
 have hln:(D8 g.cond++[(⟨5,0,[38],0⟩:Tok)]).length=(D8 g.cond).length+1:=List.length_append;have htl:=K3 g.cond;refine kA2 ?_;refine xg (E1 Et) (I8 hg g.cond _ (hO.cond.mono Sb)) ?_;rintro _ _ ⟨a14,c14,_,rfl,rfl,rfl⟩;refine xf (E1 Ek) (G5 _ _ _) ?_;refine xY A6 Eb fun b16=>?_
 refine xD A6 (Ev.tmp rfl) (Ev.tmp rfl) (show(D8 g.cond).length+1=(D8 g.cond++[(⟨5,0,[38],0⟩:Tok)]).length from hln.symm) (E9 (enc:=B2) _ (⟨5,0,[38],0⟩)) fun a17 c17=>?_
 refine kA1 ?_;refine WL.nil (C8 [(6,.slice a17 (D8 g.cond++[(⟨5,0,[38],0⟩:Tok)]).length c17)] (h'':=.row (.slice a17 (D8 g.cond++[(⟨5,0,[38],0⟩:Tok)]).length c17) 120 4 (D8 g.cond++[(⟨5,0,[38],0⟩:Tok)]).length (fl B2 (D8 g.cond++[(⟨5,0,[38],0⟩:Tok)]))::.pt b4 (.cells (guE g).toArray 102 (0,0))::prB b a c st::prW a c st::h) ?_ Su Sb ⟨a17,c17,D8 g.cond++[(⟨5,0,[38],0⟩:Tok)],e11.symm,rfl,rfl⟩);exact Su;have e11:a00 g.cond=[]:=by unfold a00;rw[if_pos (by simpa using c11)]
 refine WC.skip (C8 [(6,.slice none ([]).length 0)] (h'':=.row (.slice none ([]).length 0) 120 4 ([]).length (fl B2 ([]))::.pt b4 (.cells (guE g).toArray 102 (0,0))::prB b a c st::prW a c st::h) ?_ Su Sb ⟨none,0,[],e11.symm,rfl,rfl⟩);exact Su;rintro _ _ ⟨a6,c6,L,hL,rfl,rfl⟩;refine B1 rfl ?_;subst hL;refine kA2 ?_;refine xg (E3 Et Ek Ef) (a2f 163 D8 [59] _ _ _ g.tg.l _ (hO.tg.rd.mono Vl Sb) (by omega) (fun x _=>Nat.le_trans (K3 x) (by decide)) (fun x hx h2 hh=>I8 hg x h2 ((hO.tg.ok x hx).mono (List.Sublist.trans Sb hh)))) ?_;rintro _ _ ⟨a20,c20,_,rfl,rfl,rfl⟩;refine kQ1 [0,2,4,6,7] ?_;refine kP2 [0,2,4,6,7,22] ?_;refine H9 KKh [0,2,4] rfl (fun F' h'=>∃ a9:Option Addr,∃ c9:Nat,(True)/\F'=[]/\prB b a9 c9 (C3 st (d,G9 g.k g.name g.cond g.ch g.tg.l g.vl.l g.time))::prW a9 c9 (C3 st (d,G9 g.k g.name g.cond g.ch g.tg.l g.vl.l g.time))::.pt b4 (.cells (guE g).toArray 102 (0,0))::h=h') ?_ ?_
 refine kQ2 [0,2,4,6,7,22,23] ?_;refine wc (fun c23=>?_) fun c23=>?_
 replace c23:=F9 c23;have e9:=G9.eq_1 g.k g.name g.cond g.ch g.tg.l g.vl.l g.time;rw[if_pos c23] at e9;refine kA4 ?_;refine xg (E1 Et) (I8 hg g.cond _ (hO.cond.mono Sb)) ?_;rintro _ _ ⟨a29,c29,_,rfl,rfl,rfl⟩;refine xY K7 Eb fun b30=>?_
 refine kR a29 fun p29 q29 r29=>?_
 refine WL.perm ((Del.perm (r:=prB b a c st) De).trans ((Del.perm (r:=prW a c st) De).cons _)) ?_;refine xg (E3 Et Et Et) (F8 hg hp b a c st d _ 1 _ [⟨a29,c29,D8 g.cond⟩] (G9 g.k g.name g.cond g.ch g.tg.l g.vl.l g.time) _ (Rd.ofPt rfl (by decide) Me) (B3 (iR r29 p29 q29) H1) (by decide) (B3 (Nat.le_trans (K3 _) (by decide)) H1) (by rw[e9];simp) (hT) hn) ?_;rintro _ _ ⟨a31,c31,rfl⟩;refine WL.nil (C8 [] (h'':=prB b a31 c31 (C3 st (d,G9 g.k g.name g.cond g.ch g.tg.l g.vl.l g.time))::prW a31 c31 (C3 st (d,G9 g.k g.name g.cond g.ch g.tg.l g.vl.l g.time))::.pt b4 (.cells (guE g).toArray 102 (0,0))::h) ?_ Su Sb ⟨a31,c31,by trivial,rfl,rfl⟩);exact Su;replace c23:=F7 c23;refine kQ2 [0,2,4,6,7,22,32] ?_;refine wc (fun c32=>?_) fun c32=>?_
 replace c32:=F9 c32;have e9:=G9.eq_1 g.k g.name g.cond g.ch g.tg.l g.vl.l g.time;rw[if_neg c23,if_pos c32] at e9;refine kA3 ?_;refine xY M1 Eb fun b37=>?_
 refine xg (E1 Et) (C2 hg _ 1 _ [[83,75,73,80]] _ Rr (by decide) (by decide)) ?_;rintro _ _ ⟨a38,c38,_,rfl,rfl,rfl⟩;refine xY K7 Eb fun b39=>?_
 refine kR a6 fun p6 q6 r6=>?_
 refine kR a38 fun p38 q38 r38=>?_
 refine WL.perm ((Del.perm (r:=prB b a c st) De).trans ((Del.perm (r:=prW a c st) De).cons _)) ?_;refine xg (E3 Et Et Et) (F8 hg hp b a c st d _ 2 _ [⟨a6,c6,a00 g.cond⟩,⟨a38,c38,[A1 [83,75,73,80]]⟩] (G9 g.k g.name g.cond g.ch g.tg.l g.vl.l g.time) _ (Rd.ofPt rfl (by decide) Me) (B3 (iR r6 p6 q6) (B3 (iR r38 p38 q38) H1)) (by decide) (B3 (a9S _) (B3 (by simp) H1)) (by rw[e9];simp) (hT) hn) ?_;rintro _ _ ⟨a40,c40,rfl⟩;refine WL.nil (C8 [] (h'':=prB b a40 c40 (C3 st (d,G9 g.k g.name g.cond g.ch g.tg.l g.vl.l g.time))::prW a40 c40 (C3 st (d,G9 g.k g.name g.cond g.ch g.tg.l g.vl.l g.time))::.pt b4 (.cells (guE g).toArray 102 (0,0))::h) ?_ Su Sb ⟨a40,c40,by trivial,rfl,rfl⟩);exact Su;replace c32:=F7 c32;refine kQ2 [0,2,4,6,7,22,41] ?_;refine wc (fun c41=>?_) fun c41=>?_
 replace c41:=F9 c41;have e9:=G9.eq_1 g.k g.name g.cond g.ch g.tg.l g.vl.l g.time;rw[if_neg c23,if_neg c32,if_pos c41] at e9;refine kA5 ?_;refine xg (E1 Et) (I8 hg g.ch _ (hO.ch.mono Sb)) ?_;rintro _ _ ⟨a48,c48,_,rfl,rfl,rfl⟩;refine xY M1 Eb fun b49=>?_
 refine xg (E1 Et) (C2 hg _ 1 _ [[63]] _ Rr (by decide) (by decide)) ?_;rintro _ _ ⟨a50,c50,_,rfl,rfl,rfl⟩;refine kA1 ?_;refine xY K7 Eb fun b52=>?_
 refine kR a6 fun p6 q6 r6=>?_
 refine kR a48 fun p48 q48 r48=>?_
 refine kR a50 fun p50 q50 r50=>?_
 refine kR a20 fun p20 q20 r20=>?_
 refine WL.perm ((Del.perm (r:=prB b a c st) De).trans ((Del.perm (r:=prW a c st) De).cons _)) ?_;refine xg (E3 Et Et Et) (F8 hg hp b a c st d _ 4 _ [⟨a6,c6,a00 g.cond⟩,⟨a48,c48,D8 g.ch⟩,⟨a50,c50,[A1 [63]]⟩,⟨a20,c20,C9 [59] D8 g.tg.l⟩] (G9 g.k g.name g.cond g.ch g.tg.l g.vl.l g.time) _ (Rd.ofPt rfl (by decide) Me) (B3 (iR r6 p6 q6) (B3 (iR r48 p48 q48) (B3 (iR r50 p50 q50) (B3 (iR r20 p20 q20) H1)))) (by decide) (B3 (a9S _) (B3 (Nat.le_trans (K3 _) (by decide)) (B3 (by simp) (B3 (Nat.le_trans (a5m [59] g.tg.l (by omega)) (by decide)) H1)))) (by rw[e9];simp) (hT) hn) ?_;rintro _ _ ⟨a53,c53,rfl⟩;refine WL.nil (C8 [] (h'':=prB b a53 c53 (C3 st (d,G9 g.k g.name g.cond g.ch g.tg.l g.vl.l g.time))::prW a53 c53 (C3 st (d,G9 g.k g.name g.cond g.ch g.tg.l g.vl.l g.time))::.pt b4 (.cells (guE g).toArray 102 (0,0))::h) ?_ Su Sb ⟨a53,c53,by trivial,rfl,rfl⟩);exact Su;replace c41:=F7 c41
 refine kQ2 [0,2,4,6,7,22,54] ?_;refine wc (fun c54=>?_) fun c54=>?_
 replace c54:=F9 c54;have e9:=G9.eq_1 g.k g.name g.cond g.ch g.tg.l g.vl.l g.time;rw[if_neg c23,if_neg c32,if_neg c41,if_pos c54] at e9;refine jE ?_;refine Z4 [5,6,7,4096] (.op 0 (.op 1 (.op 2 (.op 3 (.op 4 (.op 8 (.op 9 (.op 5 (.op 6 (.op 7 .nil)))))))))) [10,11,12] _ [] D6 (fun _ _ _ h=>a0H h) [0,1,2] (by kernel_rfl) ?_;refine kA7 ?_;refine G4 rfl rfl Ef (E1 Et) (fun fr=>I8 hg g.ch _ (hO.ch.mono Sb)) Lb fun a61 c61=>?_
 refine sB rfl M1 fun b62=>?_
 refine G4 rfl rfl Ef (E1 (Ev.tmp rfl)) (fun fr=>C2 hg _ 2 _ [[63],[65,70,84,69,82]] _ (Rd.fr Rr fr) (by decide) (by decide)) Lb fun a63 c63=>?_
 refine SR.nil rfl rfl ?_;refine xg (E1 Et) (I8 hg g.time _ (hO.time.mono Sb)) ?_;rintro _ _ ⟨a66,c66,_,rfl,rfl,rfl⟩;refine xY K7 Eb fun b67=>?_
 refine kR a6 fun p6 q6 r6=>?_
 refine kR a61 fun p61 q61 r61=>?_
 refine kR a63 fun p63 q63 r63=>?_
 refine kR a66 fun p66 q66 r66=>?_
 refine WL.perm ((Del.perm (r:=prB b a c st) De).trans ((Del.perm (r:=prW a c st) De).cons _)) ?_;refine xg (E3 Et Et Et) (F8 hg hp b a c st d _ 4 _ [⟨a6,c6,a00 g.cond⟩,⟨a61,c61,D8 g.ch⟩,⟨a63,c63,[A1 [63],A1 [65,70,84,69,82]]⟩,⟨a66,c66,D8 g.time⟩] (G9 g.k g.name g.cond g.ch g.tg.l g.vl.l g.time) _ (Rd.ofPt rfl (by decide) Me) (B3 (iR r6 p6 q6) (B3 (iR r61 p61 q61) (B3 (iR r63 p63 q63) (B3 (iR r66 p66 q66) H1)))) (by decide) (B3 (a9S _) (B3 (Nat.le_trans (K3 _) (by decide)) (B3 (by simp) (B3 (Nat.le_trans (K3 _) (by decide)) H1)))) (by rw[e9];simp) (hT) hn) ?_;rintro _ _ ⟨a68,c68,rfl⟩;refine WL.nil (C8 [] (h'':=prB b a68 c68 (C3 st (d,G9 g.k g.name g.cond g.ch g.tg.l g.vl.l g.time))::prW a68 c68 (C3 st (d,G9 g.k g.name g.cond g.ch g.tg.l g.vl.l g.time))::.pt b4 (.cells (guE g).toArray 102 (0,0))::h) ?_ Su Sb ⟨a68,c68,by trivial,rfl,rfl⟩);exact Su;replace c54:=F7 c54
 refine kQ2 [0,2,4,7,22,69] ?_;refine wc (fun c69=>?_) fun c69=>?_
 replace c69:=F9 c69;have e9:=G9.eq_1 g.k g.name g.cond g.ch g.tg.l g.vl.l g.time;rw[if_neg c23,if_neg c32,if_neg c41,if_neg c54,if_pos c69] at e9;refine kA4 ?_;refine xg (E3 Et Ek Ef) (a2f 163 D8 [44] _ _ _ g.vl.l _ (hO.vl.rd.mono Vl Sb) (by omega) (fun x _=>Nat.le_trans (K3 x) (by decide)) (fun x hx h2 hh=>I8 hg x h2 ((hO.vl.ok x hx).mono (List.Sublist.trans Sb hh)))) ?_;rintro _ _ ⟨a75,c75,_,rfl,rfl,rfl⟩;refine xY K7 Eb fun b76=>?_
 refine kR a75 fun p75 q75 r75=>?_
 refine WL.perm ((Del.perm (r:=prB b a c st) De).trans ((Del.perm (r:=prW a c st) De).cons _)) ?_;refine xg (E3 Et Et Et) (F8 hg hp b a c st d _ 1 _ [⟨a75,c75,C9 [44] D8 g.vl.l⟩] (G9 g.k g.name g.cond g.ch g.tg.l g.vl.l g.time) _ (Rd.ofPt rfl (by decide) Me) (B3 (iR r75 p75 q75) H1) (by decide) (B3 (Y5 [44] g.vl.l (by omega)) H1) (by rw[e9];simp) (hT) hn) ?_;rintro _ _ ⟨a77,c77,rfl⟩;refine WL.nil (C8 [] (h'':=prB b a77 c77 (C3 st (d,G9 g.k g.name g.cond g.ch g.tg.l g.vl.l g.time))::prW a77 c77 (C3 st (d,G9 g.k g.name g.cond g.ch g.tg.l g.vl.l g.time))::.pt b4 (.cells (guE g).toArray 102 (0,0))::h) ?_ Su Sb ⟨a77,c77,by trivial,rfl,rfl⟩);exact Su;replace c69:=F7 c69;refine kQ2 [0,2,4,7,22,78] ?_;refine wc (fun c78=>?_) fun c78=>?_
 replace c78:=F9 c78;have e9:=G9.eq_1 g.k g.name g.cond g.ch g.tg.l g.vl.l g.time;rw[if_neg c23,if_neg c32,if_neg c41,if_neg c54,if_neg c69,if_pos c78] at e9;refine kA2 ?_;refine xY M1 Eb fun b82=>?_
 refine xg (E1 Et) (C2 hg _ 1 _ [[69,76,83,69]] _ Rr (by decide) (by decide)) ?_;rintro _ _ ⟨a83,c83,_,rfl,rfl,rfl⟩;refine xY K7 Eb fun b84=>?_
 refine kR a83 fun p83 q83 r83=>?_
 refine WL.perm ((Del.perm (r:=prB b a c st) De).trans ((Del.perm (r:=prW a c st) De).cons _)) ?_;refine xg (E3 Et Et Et) (F8 hg hp b a c st d _ 1 _ [⟨a83,c83,[A1 [69,76,83,69]]⟩] (G9 g.k g.name g.cond g.ch g.tg.l g.vl.l g.time) _ (Rd.ofPt rfl (by decide) Me) (B3 (iR r83 p83 q83) H1) (by decide) (B3 (by simp) H1) (by rw[e9];simp) (hT) hn) ?_;rintro _ _ ⟨a85,c85,rfl⟩;refine WL.nil (C8 [] (h'':=prB b a85 c85 (C3 st (d,G9 g.k g.name g.cond g.ch g.tg.l g.vl.l g.time))::prW a85 c85 (C3 st (d,G9 g.k g.name g.cond g.ch g.tg.l g.vl.l g.time))::.pt b4 (.cells (guE g).toArray 102 (0,0))::h) ?_ Su Sb ⟨a85,c85,by trivial,rfl,rfl⟩);exact Su;replace c78:=F7 c78;refine kQ2 [0,2,4,7,86] ?_;refine wc (fun c86=>?_) fun c86=>?_
 replace c86:=F9 c86;have e9:=G9.eq_1 g.k g.name g.cond g.ch g.tg.l g.vl.l g.time;rw[if_neg c23,if_neg c32,if_neg c41,if_neg c54,if_neg c69,if_neg c78] at e9;refine kA4 ?_;refine xg (E1 Et) (a1o g.name _ _) ?_;rintro _ _ ⟨a92,c92,_,rfl,rfl,rfl⟩;refine kA1 ?_;refine kR a20 fun p20 q20 r20=>?_
 refine xg (E2 Ek Et) (b0a hg [59] (by decide) _ _ _ (C9 [59] D8 g.tg.l) _ (iR r20 p20 q20) (Nat.le_trans (a5m [59] g.tg.l (by omega)) (by decide))) ?_;rintro _ _ ⟨a94,c94,_,rfl,rfl,rfl⟩;refine xY K7 Eb fun b95=>?_
 refine kR a92 fun p92 q92 r92=>?_
 refine kR a94 fun p94 q94 r94=>?_
 refine WL.perm ((Del.perm (r:=prB b a c st) De).trans ((Del.perm (r:=prW a c st) De).cons _)) ?_;refine xg (E3 Et Et Et) (F8 hg hp b a c st d _ 2 _ [⟨a92,c92,[N6 g.name]⟩,⟨a94,c94,a1E [59] (C9 [59] D8 g.tg.l)⟩] (G9 g.k g.name g.cond g.ch g.tg.l g.vl.l g.time) _ (Rd.ofPt rfl (by decide) Me) (B3 (iR r92 p92 q92) (B3 (iR r94 p94 q94) H1)) (by decide) (B3 (by simp) (B3 (b3u [59] (a5m [59] g.tg.l (by omega))) H1)) (by rw[e9];simp) (hT) hn) ?_;rintro _ _ ⟨a96,c96,rfl⟩;refine WL.nil (C8 [] (h'':=prB b a96 c96 (C3 st (d,G9 g.k g.name g.cond g.ch g.tg.l g.vl.l g.time))::prW a96 c96 (C3 st (d,G9 g.k g.name g.cond g.ch g.tg.l g.vl.l g.time))::.pt b4 (.cells (guE g).toArray 102 (0,0))::h) ?_ Su Sb ⟨a96,c96,by trivial,rfl,rfl⟩);exact Su;replace c86:=F7 c86;omega;rintro _ _ ⟨a9,c9,hJ,rfl,rfl⟩;refine B1 rfl ?_;refine kA3 ?_
 refine xG (G1 Z8.und Z8.size Z8.posz (Ev.tmp rfl) Ek Rr rfl (q:=0) (by omega)) ?_;refine kA3 ?_;refine xg (E3 Et Et Et) (hy3 b a9 c9 (C3 st (d,G9 g.k g.name g.cond g.ch g.tg.l g.vl.l g.time)) (d+1) _ (hy1.mono Sb) hy2 (by omega) (R0 hn)) ?_;rintro _ _ ⟨a104,c104,rfl⟩;rw[<- a0d,<- hlg];refine WL.nil (w0 (prB b a104 c104 (B5 st (W6 g d))::prW a104 c104 (B5 st (W6 g d))::h) ?_);exact⟨a104,c104,rfl⟩
end
section
open Go.Eng Go.Pc Go.Sx Go
open Go.Xp hiding B D5
open Go.Ty (Ty Vr Tok eqT tyV I4 B2 B4 R1 zeroK L7 D3 encV D7 prL prV PrOk VOk mayPr hdV)
open Go.Lx (encB C4 textO)
open Go.Ly (Rw O6 G8)
theorem a6A {t:Ty}:TkL (K1 t):=by
 unfold K1 Go.Ty.tokens;split
 ·rename_i hm
  have hw:=b3f hm;have hd:=Go.Ty.may_dim hm;have h1:TkL (Go.Ty.dimT t):=by
   unfold Go.Ty.dimT;refine M8 (a5S (a2M (p:=0) (by decide)) (a5S (fun x hx=>?_) (a2M (p:=0) (by decide)))) a0D;rw[List.mem_singleton] at hx;subst hx;exact⟨(show -2147483648<=t.dim/\t.dim<=2147483647 by omega),Nat.zero_le _⟩
  have h2:TkL (Go.Ty.chanT t):=M8 (a5S (a2M (p:=0) (by decide)) (a2M (p:=0) (by decide))) a0D;have h3:TkL [Go.Ty.lastT t]:=by
   unfold Go.Ty.lastT;split
   ·refine a2M (p:=0) ?_
    have:∀ k,(Go.Ty.wordS k).1.length<=10:=fun k=>by
     unfold Go.Ty.wordS Go.Ty.prims Go.Ty.wordIn Go.Ty.wordIn Go.Ty.wordIn Go.Ty.wordIn;repeat' split
     all_goals decide
    exact Nat.le_trans (this _) (by decide)
   ·split
    ·exact a2M (p:=0) hw.p
    ·exact a2M (p:=0) (by decide)
  exact G0 (G0 h1 h2) h3
 ·exact a0D
theorem c2l {f:Fo} (h:FoW f):TkL (P4 f):=G0 (G0 (M8 (T7 (by decide)) a0D) a6A) (a8K h.n)
theorem a5v {l:List B} (h:∀ x ∈ l,x.length<=Big):TkL (I6 l):=b1G (by decide) fun x hx=>a8K (h x hx)
theorem b7J {l:List Int}:TkL (C9 [59] a0j l):=b1G (by decide) fun _ _=>a6A
theorem a2i (l:List B) (h:l.length<=9):(I6 l).length<=30000:=by
 have h1:=a2e [44] (fun s=>[N6 s]) 1 l fun x _=>Nat.le_refl _
 unfold I6;omega
theorem a9l (k:Int):(a0j k).length<=10:=a2b _
theorem a7s (sep:B) (l:List Int) (h:l.length<=9):(C9 sep a0j l).length<=25000:=by
 have h1:=a2e sep a0j 10 l fun x _=>a9l x
 omega
theorem a8w (f:Fo):(P4 f).length<=20:=by
 unfold P4;have:=a2b f.ty;rw[List.length_append,List.length_append];split <;> simp only[List.length_singleton,List.length_nil] <;> omega
theorem b7j (sep:B) (l:List Fo) (h:l.length<=9):(C9 sep P4 l).length<=30000:=by
 have h1:=a2e sep P4 20 l fun x _=>a8w x
 omega
theorem b7g {s:Sp} (h:spP s=true):(1<=s.k/\s.k<=5)/\s.names.l.length<=8/\(s.k=5->s.bl.length=1/\s.fs.l.length<=8)/\(s.k=4->mayPr s.cs s.vs.l=true):=by
 unfold spP at h;split at h
 ·rename_i hk
  simp only[Bool.and_eq_true] at h;obtain⟨⟨h1,h2⟩,-⟩:=h;have h3:=(T0 h2).2.2;refine⟨hk,by split at h3 <;> omega,fun h5=>?_,fun h4=>?_⟩
  ·unfold a2j at h1
   rw[if_neg (by omega),if_neg (by omega),if_neg (by omega),if_neg (by omega)] at h1;simp only[Bool.and_eq_true,beq_iff_eq] at h1;have:=(T0 h1.2).2.2;exact⟨by omega,by omega⟩
  ·unfold a2j at h1
   rw[if_neg (by omega),if_neg (by omega),if_neg (by omega),if_pos h4] at h1;exact h1
 ·cases h
theorem b4W {cs:Bool} {l:List Vr} (h:mayPr cs l=true):1<=l.length/\l.length<=16:=by
 unfold Go.Ty.mayPr at h;cases cs with
 | false=>
  simp only[Bool.not_false,if_true,Bool.and_eq_true,beq_iff_eq] at h;omega
 | true=>
  simp only[Bool.not_true,Bool.false_eq_true,if_false] at h;split at h
  ·cases h
  ·rename_i q
   simp only[Bool.or_eq_true,decide_eq_true_eq] at q;omega
theorem a8y:∀ {l pre:List Vr},Go.Ty.mayIn pre l=true->∀ v ∈ l,v.tag.length<=Big
 | [],_,_,v,hv=>by cases hv
 | w::r,pre,h,v,hv=>by
  unfold Go.Ty.mayIn at h;split at h
  ·cases h
  ·rename_i q
   cases hv with
   | head=>
    unfold Go.Ty.badV at q;simp only[Bool.or_eq_true,Bool.not_eq_true',not_or,Bool.not_eq_false] at q;have q1:=q.1.1;unfold Go.Lx.name at q1;simp only[Bool.and_eq_true,decide_eq_true_eq] at q1;have q2:=q1.1.1.1.2;unfold Big;omega
   | tail _ hv=>exact a8y h v hv
theorem b4s {cs:Bool} {l:List Vr} (h:mayPr cs l=true):∀ v ∈ l,v.tag.length<=Big:=by
 unfold Go.Ty.mayPr at h;cases cs with
 | false=>
  simp only[Bool.not_false,if_true,Bool.and_eq_true,beq_iff_eq] at h;intro v hv;match l,h.1.1,h.1.2,hv with
  | [w],_,h2,hv=>
   have:v=w:=by simpa using hv
   subst this;have h3:v.tag=[]:=h2;rw[h3];exact Nat.zero_le _
 | true=>
  simp only[Bool.not_true,Bool.false_eq_true,if_false] at h;split at h
  ·cases h
  ·exact a8y h
theorem b4Z (s:Sp) (d:Int):J6 s d=if s.k=1 then [(d,(K1 s.ty++I6 s.names.l)++[A1 [58]])]
 else if s.k=2 then [(d,(((([A1 [86,65,76]]++K1 s.ty)++I6 s.names.l)++[A1 [73,83]])++D8 s.e)++[A1 [58]])]
 else if s.k=3 then [(d,(((K1 s.ty++I6 s.names.l)++[A1 [73,83]])++D8 s.e)++[A1 [58]])]
 else if s.k=5 then (d,((([A1 [80,82,79,67]]++I6 s.names.l)++[A1 [40]])++C9 [44] P4 s.fs.l)++[A1 [41]])::(a0W s.bl (d+1)++[(d,[A1 [58]])])
 else if s.cs=false then [(d,((([A1 [80,82,79,84,79,67,79,76]]++I6 s.names.l)++[A1 [73,83]])++C9 [59] a0j (hdV s.vs.l).items)++[A1 [58]])]
 else (d,[A1 [80,82,79,84,79,67,79,76]]++I6 s.names.l)::(d+1,[A1 [67,65,83,69]])::(s.vs.l.map (fun v=>((d+2,J0 v):Ln))++[(d,[A1 [58]])]):=by cases s;rfl
theorem c1m {l:List Vr} (h:1<=l.length):l[0]?=some (hdV l):=by cases l with | nil=>simp at h | cons v l=>rfl
theorem b2I (st:Ps) (l:List Ln) (x:Ln):C3 (B5 st l) x=B5 st (l++[x]):=by rw[Y1];rfl
set_option maxHeartbeats 4000000 in
theorem b6o {m:View} (hg:Glob m) (hp:Pow m) (s:Sp) (b:Nat) (a:Option Addr) (c:Nat) (st:Ps) (d:Int) (h:List Res) (hO:SOk m h s) (hu:spP s=true) (hS:∀ x ∈ s.bl,POk m h x/\Vld x/\PRC m x/\d+1+2 * (Q8 x:Int)<=100000) (hd:0<=d/\d<=100000) (hn:st.1.length<=2049) :
 CT Tryz.prog 104 [ptV b,spV s,.int .i64 d] (prB b a c st::prW a c st::h) m (fun _ _ h'=>PrR b h (B5 st (J6 s d)) h'):=by
 obtain⟨hk,hnl,h5,h4⟩:=b7g hu;have hty:s.ty.proto.length<=9223372036854775807:=Nat.le_trans hO.ty.p (by decide);have hls:=b4Z s d;have hfw:=hO.fw;refine CT.body Tryz.call104 Tryz.func104 rfl Tryz.ntmps104 Lb rfl ?_;refine j0 ?_;refine xX fun b4=>?_
 refine kQ0 [0,2,4] ?_;refine kA2 ?_;refine xg (E3 Et Ek Ef) (b4q 161 (fun s=>[N6 s]) [44] _ _ _ s.names.l _ (hO.nr.mono Vl Sb) (by omega) (fun _ _=>(by decide:1<=3000)) (fun x _ h2 _=>a1o x h2 m)) ?_;rintro _ _ ⟨a11,c11,_,rfl,rfl,rfl⟩;refine kQ1 [0,2,4,6] ?_;refine kQ2 [0,2,4,6,13] ?_;refine kQ2 [0,2,4,6,13,14] ?_;refine wc (fun c14=>?_) fun c14=>?_
 replace c14:=F9 c14;obtain⟨T1,hT1⟩:∃ T,T=(K1 s.ty++I6 s.names.l)++[A1 [58]]:=⟨_,rfl⟩;rw[if_pos c14,<- hT1] at hls;refine kA4 ?_;refine xg (E1 Et) (a0N hg s.ty _ hty) ?_;rintro _ _ ⟨a20,c20,_,rfl,rfl,rfl⟩;refine kA1 ?_;refine xY M1 Eb fun b22=>?_
 refine xg (E1 Et) (C2 hg _ 1 _ [[58]] _ Rr (by decide) (by decide)) ?_;rintro _ _ ⟨a23,c23,_,rfl,rfl,rfl⟩;refine xY K7 Eb fun b24=>?_
 refine kR a20 fun p20 q20 r20=>?_
 refine kR a11 fun p11 q11 r11=>?_
 refine kR a23 fun p23 q23 r23=>?_
 refine WL.perm ((Del.perm (r:=prB b a c st) De).trans ((Del.perm (r:=prW a c st) De).cons _)) ?_;refine xg (E3 Et Et Et) (F8 hg hp b a c st d _ 3 _ [⟨a20,c20,K1 s.ty⟩,⟨a11,c11,I6 s.names.l⟩,⟨a23,c23,[A1 [58]]⟩] (T1) _ (Rd.ofPt rfl (by decide) Me) (B3 (iR r20 p20 q20) (B3 (iR r11 p11 q11) (B3 (iR r23 p23 q23) H1))) (by decide) (B3 (Nat.le_trans (a2b _) (by decide)) (B3 (a2i s.names.l (by omega)) (B3 (by simp) H1))) (by rw[hT1];simp) (by rw[hT1];exact G0 (G0 a6A (a5v hO.nw)) (T7 (by decide))) hn) ?_;rintro _ _ ⟨a25,c25,rfl⟩;rw[show C3 st (d,T1)=B5 st (J6 s d) by rw[hls];rfl];refine WL.nil (w0 (prB b a25 c25 (B5 st (J6 s d))::prW a25 c25 (B5 st (J6 s d))::h) ?_);exact⟨a25,c25,rfl⟩;replace c14:=F7 c14;refine kQ2 [0,2,4,6,13,26] ?_;refine wc (fun c26=>?_) fun c26=>?_
 replace c26:=F9 c26;obtain⟨T2,hT2⟩:∃ T,T=(((([A1 [86,65,76]]++K1 s.ty)++I6 s.names.l)++[A1 [73,83]])++D8 s.e)++[A1 [58]]:=⟨_,rfl⟩;rw[if_neg c14,if_pos c26,<- hT2] at hls;refine jE ?_;refine Z4 [2,3,6,8,9,12,13,4096] (.op 0 (.op 1 (.op 4 (.op 5 (.op 7 (.op 10 (.op 11 (.op 2 (.op 3 (.op 6 (.op 8 (.op 9 (.op 12 (.op 13 .nil)))))))))))))) [14,15,16] _ [] D6 (fun _ _ _ h=>a0H h) [0,1,7] (by kernel_rfl) ?_;refine kA7 ?_;refine sB rfl M1 fun b30=>?_
 refine G4 rfl rfl Ef (E1 (Ev.tmp rfl)) (fun fr=>C2 hg _ 1 _ [[86,65,76]] _ (Rd.fr Rr fr) (by decide) (by decide)) Lb fun a31 c31=>?_
 refine G4 rfl rfl Ef (E1 Et) (fun fr=>a0N hg s.ty _ hty) Lb fun a34 c34=>?_
 refine sB rfl M1 fun b36=>?_
 refine G4 rfl rfl Ef (E1 (Ev.tmp rfl)) (fun fr=>C2 hg _ 1 _ [[73,83]] _ (Rd.fr Rr fr) (by decide) (by decide)) Lb fun a37 c37=>?_
 refine G4 rfl rfl Ef (E1 Et) (fun fr=>I8 hg s.e _ (hO.e.mono Sb)) Lb fun a40 c40=>?_
 refine sB rfl M1 fun b41=>?_
 refine SR.nil rfl rfl ?_;refine xg (E1 Et) (C2 hg _ 1 _ [[58]] _ Rr (by decide) (by decide)) ?_;rintro _ _ ⟨a42,c42,_,rfl,rfl,rfl⟩;refine xY K7 Eb fun b43=>?_
 refine kR a31 fun p31 q31 r31=>?_
 refine kR a34 fun p34 q34 r34=>?_
 refine kR a11 fun p11 q11 r11=>?_
 refine kR a37 fun p37 q37 r37=>?_
 refine kR a40 fun p40 q40 r40=>?_
 refine kR a42 fun p42 q42 r42=>?_
 refine WL.perm ((Del.perm (r:=prB b a c st) De).trans ((Del.perm (r:=prW a c st) De).cons _)) ?_;refine xg (E3 Et Et Et) (F8 hg hp b a c st d _ 6 _ [⟨a31,c31,[A1 [86,65,76]]⟩,⟨a34,c34,K1 s.ty⟩,⟨a11,c11,I6 s.names.l⟩,⟨a37,c37,[A1 [73,83]]⟩,⟨a40,c40,D8 s.e⟩,⟨a42,c42,[A1 [58]]⟩] (T2) _ (Rd.ofPt rfl (by decide) Me) (B3 (iR r31 p31 q31) (B3 (iR r34 p34 q34) (B3 (iR r11 p11 q11) (B3 (iR r37 p37 q37) (B3 (iR r40 p40 q40) (B3 (iR r42 p42 q42) H1)))))) (by decide) (B3 (by simp) (B3 (Nat.le_trans (a2b _) (by decide)) (B3 (a2i s.names.l (by omega)) (B3 (by simp) (B3 (Nat.le_trans (K3 _) (by decide)) (B3 (by simp) H1)))))) (by rw[hT2];simp) (by rw[hT2];exact G0 (G0 (G0 (G0 (G0 (T7 (by decide)) a6A) (a5v hO.nw)) (T7 (by decide))) (a1H hO.e)) (T7 (by decide))) hn) ?_;rintro _ _ ⟨a44,c44,rfl⟩;rw[show C3 st (d,T2)=B5 st (J6 s d) by rw[hls];rfl]
 refine WL.nil (w0 (prB b a44 c44 (B5 st (J6 s d))::prW a44 c44 (B5 st (J6 s d))::h) ?_);exact⟨a44,c44,rfl⟩;replace c26:=F7 c26;refine kQ2 [0,2,4,6,13,45] ?_;refine wc (fun c45=>?_) fun c45=>?_
 replace c45:=F9 c45;obtain⟨T3,hT3⟩:∃ T,T=(((K1 s.ty++I6 s.names.l)++[A1 [73,83]])++D8 s.e)++[A1 [58]]:=⟨_,rfl⟩;rw[if_neg c14,if_neg c26,if_pos c45,<- hT3] at hls;refine jE ?_;refine Z4 [4,6,7,10,11,4096] (.op 0 (.op 1 (.op 2 (.op 3 (.op 5 (.op 8 (.op 9 (.op 4 (.op 6 (.op 7 (.op 10 (.op 11 .nil)))))))))))) [12,13,14] _ [] D6 (fun _ _ _ h=>a0H h) [0,1,5] (by kernel_rfl) ?_;refine kA7 ?_;refine G4 rfl rfl Ef (E1 Et) (fun fr=>a0N hg s.ty _ hty) Lb fun a51 c51=>?_
 refine sB rfl M1 fun b53=>?_
 refine G4 rfl rfl Ef (E1 (Ev.tmp rfl)) (fun fr=>C2 hg _ 1 _ [[73,83]] _ (Rd.fr Rr fr) (by decide) (by decide)) Lb fun a54 c54=>?_
 refine G4 rfl rfl Ef (E1 Et) (fun fr=>I8 hg s.e _ (hO.e.mono Sb)) Lb fun a57 c57=>?_
 refine sB rfl M1 fun b58=>?_
 refine SR.nil rfl rfl ?_;refine xg (E1 Et) (C2 hg _ 1 _ [[58]] _ Rr (by decide) (by decide)) ?_;rintro _ _ ⟨a59,c59,_,rfl,rfl,rfl⟩;refine xY K7 Eb fun b60=>?_
 refine kR a51 fun p51 q51 r51=>?_
 refine kR a11 fun p11 q11 r11=>?_
 refine kR a54 fun p54 q54 r54=>?_
 refine kR a57 fun p57 q57 r57=>?_
 refine kR a59 fun p59 q59 r59=>?_
 refine WL.perm ((Del.perm (r:=prB b a c st) De).trans ((Del.perm (r:=prW a c st) De).cons _)) ?_;refine xg (E3 Et Et Et) (F8 hg hp b a c st d _ 5 _ [⟨a51,c51,K1 s.ty⟩,⟨a11,c11,I6 s.names.l⟩,⟨a54,c54,[A1 [73,83]]⟩,⟨a57,c57,D8 s.e⟩,⟨a59,c59,[A1 [58]]⟩] (T3) _ (Rd.ofPt rfl (by decide) Me) (B3 (iR r51 p51 q51) (B3 (iR r11 p11 q11) (B3 (iR r54 p54 q54) (B3 (iR r57 p57 q57) (B3 (iR r59 p59 q59) H1))))) (by decide) (B3 (Nat.le_trans (a2b _) (by decide)) (B3 (a2i s.names.l (by omega)) (B3 (by simp) (B3 (Nat.le_trans (K3 _) (by decide)) (B3 (by simp) H1))))) (by rw[hT3];simp) (by rw[hT3];exact G0 (G0 (G0 (G0 a6A (a5v hO.nw)) (T7 (by decide))) (a1H hO.e)) (T7 (by decide))) hn) ?_;rintro _ _ ⟨a61,c61,rfl⟩;rw[show C3 st (d,T3)=B5 st (J6 s d) by rw[hls];rfl];refine WL.nil (w0 (prB b a61 c61 (B5 st (J6 s d))::prW a61 c61 (B5 st (J6 s d))::h) ?_);exact⟨a61,c61,rfl⟩;replace c45:=F7 c45
 refine kQ2 [0,2,4,6,13,62] ?_;refine wc (fun c62=>?_) fun c62=>?_
 replace c62:=F9 c62;obtain⟨T5,hT5⟩:∃ T,T=((([A1 [80,82,79,67]]++I6 s.names.l)++[A1 [40]])++C9 [44] P4 s.fs.l)++[A1 [41]]:=⟨_,rfl⟩;rw[if_neg c14,if_neg c26,if_neg c45,if_pos c62,<- hT5] at hls;obtain⟨hbl,hfl⟩:=h5 c62;obtain⟨y,hy⟩:=A5 (l:=s.bl) (k:=0) (by omega);obtain⟨hy1,hy2,hy3,hy4⟩:=hS y (List.mem_of_getElem? hy);have hrb:=hO.b;have hcy:=a5h y;have hbe:s.bl=[y]:=by
  cases hb:s.bl with
  | nil=>rw[hb] at hy;cases hy
  | cons z r=>
   rw[hb] at hy hbl;cases hy;cases r with
   | nil=>rfl
   | cons u v=>simp at hbl
 refine jE ?_;refine Z4 [2,3,5,6,9,10,4096] (.op 0 (.op 1 (.op 4 (.op 7 (.op 8 (.op 2 (.op 3 (.op 5 (.op 6 (.op 9 (.op 10 .nil))))))))))) [11,12,13] _ [] D6 (fun _ _ _ h=>a0H h) [0,1,4] (by kernel_rfl) ?_;refine kA5 ?_;refine sB rfl M1 fun b66=>?_
 refine G4 rfl rfl Ef (E1 (Ev.tmp rfl)) (fun fr=>C2 hg _ 1 _ [[80,82,79,67]] _ (Rd.fr Rr fr) (by decide) (by decide)) Lb fun a67 c67=>?_
 refine sB rfl M1 fun b69=>?_
 refine G4 rfl rfl Ef (E1 (Ev.tmp rfl)) (fun fr=>C2 hg _ 1 _ [[40]] _ (Rd.fr Rr fr) (by decide) (by decide)) Lb fun a70 c70=>?_
 refine G4 rfl rfl Ef (E3 Et Ek Ef) (fun fr=>b5y 165 P4 [44] _ _ _ s.fs.l _ (hO.fr.mono Vl Sb) (by omega) (fun x _=>Nat.le_trans (a8w x) (by decide)) (fun x hx h2 _=>b2a hg x h2 (hO.fw x hx))) Lb fun a73 c73=>?_
 refine sB rfl M1 fun b74=>?_
 refine SR.nil rfl rfl ?_;refine xg (E1 Et) (C2 hg _ 1 _ [[41]] _ Rr (by decide) (by decide)) ?_;rintro _ _ ⟨a75,c75,_,rfl,rfl,rfl⟩;refine xY K7 Eb fun b76=>?_
 refine kR a67 fun p67 q67 r67=>?_
 refine kR a11 fun p11 q11 r11=>?_
 refine kR a70 fun p70 q70 r70=>?_
 refine kR a73 fun p73 q73 r73=>?_
 refine kR a75 fun p75 q75 r75=>?_
 refine WL.perm ((Del.perm (r:=prB b a c st) De).trans ((Del.perm (r:=prW a c st) De).cons _)) ?_;refine xg (E3 Et Et Et) (F8 hg hp b a c st d _ 5 _ [⟨a67,c67,[A1 [80,82,79,67]]⟩,⟨a11,c11,I6 s.names.l⟩,⟨a70,c70,[A1 [40]]⟩,⟨a73,c73,C9 [44] P4 s.fs.l⟩,⟨a75,c75,[A1 [41]]⟩] (T5) _ (Rd.ofPt rfl (by decide) Me) (B3 (iR r67 p67 q67) (B3 (iR r11 p11 q11) (B3 (iR r70 p70 q70) (B3 (iR r73 p73 q73) (B3 (iR r75 p75 q75) H1))))) (by decide) (B3 (by simp) (B3 (a2i s.names.l (by omega)) (B3 (by simp) (B3 (b7j [44] s.fs.l (by omega)) (B3 (by simp) H1))))) (by rw[hT5];simp) (by rw[hT5];exact G0 (G0 (G0 (G0 (T7 (by decide)) (a5v hO.nw)) (T7 (by decide))) (b1G (by decide) fun x hx=>c2l (hO.fw x hx))) (T7 (by decide))) hn) ?_;rintro _ _ ⟨a77,c77,rfl⟩;refine kQ0 [0,2,4] ?_;refine kA3 ?_;refine xG (G1 Z8.und Z8.size Z8.posz (Ev.tmp rfl) Ek Rr rfl (q:=0) (by omega)) ?_;refine kA3 ?_
 refine WL.perm ((Del.perm (r:=prB b a77 c77 (C3 st (d,T5))) De).trans ((Del.perm (r:=prW a77 c77 (C3 st (d,T5))) De).cons _)) ?_;refine xg (E3 Et Et Et) (hy3 b a77 c77 (C3 st (d,T5)) (d+1) _ (hy1.mono Sb) hy2 (by omega) (R0 hn)) ?_;rintro _ _ ⟨a85,c85,rfl⟩;refine kQ0 [0,2] ?_;refine kA2 ?_;refine xY M1 Eb fun b88=>?_
 refine xg (E1 Et) (C2 hg _ 1 _ [[58]] _ Rr (by decide) (by decide)) ?_;rintro _ _ ⟨a89,c89,_,rfl,rfl,rfl⟩;refine xY K7 Eb fun b90=>?_
 refine kR a89 fun p89 q89 r89=>?_
 refine WL.perm ((Del.perm (r:=prB b a85 c85 (B5 (C3 st (d,T5)) (I3 y (d+1)))) De).trans ((Del.perm (r:=prW a85 c85 (B5 (C3 st (d,T5)) (I3 y (d+1)))) De).cons _)) ?_;refine xg (E3 Et Et Et) (F8 hg hp b a85 c85 (B5 (C3 st (d,T5)) (I3 y (d+1))) d _ 1 _ [⟨a89,c89,[A1 [58]]⟩] ([A1 [58]]) _ (Rd.ofPt rfl (by decide) Me) (B3 (iR r89 p89 q89) H1) (by decide) (B3 (by simp) H1) (by simp) ((T7 (by decide))) (Y2 _ (R0 hn))) ?_;rintro _ _ ⟨a91,c91,rfl⟩;rw[show C3 (B5 (C3 st (d,T5)) (I3 y (d+1))) (d,[A1 [58]])=B5 st (J6 s d) by rw[hls,a0d,Y1,hbe];rfl];refine WL.nil (w0 (prB b a91 c91 (B5 st (J6 s d))::prW a91 c91 (B5 st (J6 s d))::h) ?_);exact⟨a91,c91,rfl⟩;replace c62:=F7 c62;refine kQ2 [0,2,4,6,92] ?_;refine wc (fun c92=>?_) fun c92=>?_
 replace c92:=F9 c92;have hm:=h4 c92;obtain⟨hv1,hv2⟩:=b4W hm;have hv3:=Go.Ty.mayPr_items hm;have hvg:=b4s hm;have hg0:=c1m hv1;have hgm:=List.mem_of_getElem? hg0;have hvr:=hO.v.rd;have hvi:=(hO.v.ok _ hgm).rd;have hvn:=hO.vw _ hgm;have hv3h:=hv3 _ hgm;rw[if_neg c14,if_neg c26,if_neg c45,if_neg c62] at hls;refine kQ4 [0,2,4,6,97] ?_;refine wc (fun c97=>?_) fun c97=>?_
 have d97:s.cs=false:=by simpa using c97
 obtain⟨T4,hT4⟩:∃ T,T=((([A1 [80,82,79,84,79,67,79,76]]++I6 s.names.l)++[A1 [73,83]])++C9 [59] a0j (hdV s.vs.l).items)++[A1 [58]]:=⟨_,rfl⟩;rw[if_pos d97,<- hT4] at hls;refine jE ?_;refine Z4 [2,3,5,6,13,14,4096] (.op 0 (.op 1 (.op 4 (.op 7 (.op 8 (.op 9 (.op 10 (.op 11 (.op 12 (.op 2 (.op 3 (.op 5 (.op 6 (.op 13 (.op 14 .nil))))))))))))))) [15,16,17] _ [] D6 (fun _ _ _ h=>a0H h) [0,1,4] (by kernel_rfl) ?_;refine kA6 ?_;refine yG rfl (G1 a1Q.und a1Q.size a1Q.posz (Ev.tmp rfl) Ek Rr rfl (q:=0) (by omega)) ?_;refine kA2 ?_;refine sB rfl M1 fun b100=>?_
 refine G4 rfl rfl Ef (E1 (Ev.tmp rfl)) (fun fr=>C2 hg _ 1 _ [[80,82,79,84,79,67,79,76]] _ (Rd.fr Rr fr) (by decide) (by decide)) Lb fun a101 c101=>?_
 refine sB rfl M1 fun b103=>?_
 refine G4 rfl rfl Ef (E1 (Ev.tmp rfl)) (fun fr=>C2 hg _ 1 _ [[73,83]] _ (Rd.fr Rr fr) (by decide) (by decide)) Lb fun a104 c104=>?_
 refine G4 rfl rfl Ef (E3 Et Ek Ef) (fun fr=>a8o 167 a0j [59] _ _ _ (hdV s.vs.l).items _ (hvi.mono Vl Sb) (by omega) (fun x _=>Nat.le_trans (a9l x) (by decide)) (fun x _ h2 _=>b1h hg x h2)) Lb fun a111 c111=>?_
 refine sB rfl M1 fun b112=>?_
 refine SR.nil rfl rfl ?_;refine xg (E1 Et) (C2 hg _ 1 _ [[58]] _ Rr (by decide) (by decide)) ?_;rintro _ _ ⟨a113,c113,_,rfl,rfl,rfl⟩;refine xY K7 Eb fun b114=>?_
 refine kR a101 fun p101 q101 r101=>?_
 refine kR a11 fun p11 q11 r11=>?_
 refine kR a104 fun p104 q104 r104=>?_
 refine kR a111 fun p111 q111 r111=>?_
 refine kR a113 fun p113 q113 r113=>?_
 refine WL.perm ((Del.perm (r:=prB b a c st) De).trans ((Del.perm (r:=prW a c st) De).cons _)) ?_;refine xg (E3 Et Et Et) (F8 hg hp b a c st d _ 5 _ [⟨a101,c101,[A1 [80,82,79,84,79,67,79,76]]⟩,⟨a11,c11,I6 s.names.l⟩,⟨a104,c104,[A1 [73,83]]⟩,⟨a111,c111,C9 [59] a0j (hdV s.vs.l).items⟩,⟨a113,c113,[A1 [58]]⟩] (T4) _ (Rd.ofPt rfl (by decide) Me) (B3 (iR r101 p101 q101) (B3 (iR r11 p11 q11) (B3 (iR r104 p104 q104) (B3 (iR r111 p111 q111) (B3 (iR r113 p113 q113) H1))))) (by decide) (B3 (by simp) (B3 (a2i s.names.l (by omega)) (B3 (by simp) (B3 (Nat.le_trans (a7s [59] (hdV s.vs.l).items (by omega)) (by decide)) (B3 (by simp) H1))))) (by rw[hT4];simp) (by rw[hT4];exact G0 (G0 (G0 (G0 (T7 (by decide)) (a5v hO.nw)) (T7 (by decide))) b7J) (T7 (by decide))) hn) ?_;rintro _ _ ⟨a115,c115,rfl⟩;rw[show C3 st (d,T4)=B5 st (J6 s d) by rw[hls];rfl];refine kQ0 [] ?_
 refine WC.ret (a9h (h':=prB b a115 c115 (B5 st (J6 s d))::prW a115 c115 (B5 st (J6 s d))::h) (.inl rfl) rfl  Vl Sb ?_);exact⟨a115,c115,rfl⟩;have d97:¬ (s.cs=false):=by simpa using c97
 obtain⟨T6,hT6⟩:∃ T,T=[A1 [80,82,79,84,79,67,79,76]]++I6 s.names.l:=⟨_,rfl⟩;rw[if_neg d97,<- hT6] at hls;refine kQ0 [0,2,4,6] ?_;refine kA2 ?_;refine xY M1 Eb fun b118=>?_
 refine xg (E1 Et) (C2 hg _ 1 _ [[80,82,79,84,79,67,79,76]] _ Rr (by decide) (by decide)) ?_;rintro _ _ ⟨a119,c119,_,rfl,rfl,rfl⟩;refine kA1 ?_;refine xY K7 Eb fun b121=>?_
 refine kR a119 fun p119 q119 r119=>?_
 refine kR a11 fun p11 q11 r11=>?_
 refine WL.perm ((Del.perm (r:=prB b a c st) De).trans ((Del.perm (r:=prW a c st) De).cons _)) ?_;refine xg (E3 Et Et Et) (F8 hg hp b a c st d _ 2 _ [⟨a119,c119,[A1 [80,82,79,84,79,67,79,76]]⟩,⟨a11,c11,I6 s.names.l⟩] (T6) _ (Rd.ofPt rfl (by decide) Me) (B3 (iR r119 p119 q119) (B3 (iR r11 p11 q11) H1)) (by decide) (B3 (by simp) (B3 (a2i s.names.l (by omega)) H1)) (by rw[hT6];simp) (by rw[hT6];exact G0 (T7 (by decide)) (a5v hO.nw)) hn) ?_;rintro _ _ ⟨a122,c122,rfl⟩;refine kQ0 [0,2,4] ?_;refine kA3 ?_;refine xY M1 Eb fun b126=>?_
 refine xg (E1 Et) (C2 hg _ 1 _ [[67,65,83,69]] _ Rr (by decide) (by decide)) ?_;rintro _ _ ⟨a127,c127,_,rfl,rfl,rfl⟩;refine xY K7 Eb fun b128=>?_
 refine kR a127 fun p127 q127 r127=>?_
 refine WL.perm ((Del.perm (r:=prB b a122 c122 (C3 st (d,T6))) De).trans ((Del.perm (r:=prW a122 c122 (C3 st (d,T6))) De).cons _)) ?_;refine xg (E3 Et Et Et) (F8 hg hp b a122 c122 (C3 st (d,T6)) (d+1) _ 1 _ [⟨a127,c127,[A1 [67,65,83,69]]⟩] ([A1 [67,65,83,69]]) _ (Rd.ofPt rfl (by decide) Me) (B3 (iR r127 p127 q127) H1) (by decide) (B3 (by simp) H1) (by simp) ((T7 (by decide))) (R0 hn)) ?_;rintro _ _ ⟨a129,c129,rfl⟩;refine kQ0 [0,2,4] ?_;refine kQ5 [0,2,132,133,134] ?_
 refine B0 [0,2,132,133] rfl (fun μ F' h'=>∃ a9:Option Addr,∃ c9:Nat,∃ j:Nat,(j<=s.vs.l.length)/\s.vs.l.length - j=μ/\F'=[(134,.int .i64 j)]/\prB b a9 c9 (B5 (C3 (C3 st (d,T6)) (d+1,[A1 [67,65,83,69]])) ((s.vs.l.take j).map fun v=>((d+2,J0 v):Ln)))::prW a9 c9 (B5 (C3 (C3 st (d,T6)) (d+1,[A1 [67,65,83,69]])) ((s.vs.l.take j).map fun v=>((d+2,J0 v):Ln)))::h=h') (s.vs.l.length - 0) [(134,.int .i64 0)] (h0:=prB b a129 c129 (B5 (C3 (C3 st (d,T6)) (d+1,[A1 [67,65,83,69]])) ((s.vs.l.take 0).map fun v=>((d+2,J0 v):Ln)))::prW a129 c129 (B5 (C3 (C3 st (d,T6)) (d+1,[A1 [67,65,83,69]])) ((s.vs.l.take 0).map fun v=>((d+2,J0 v):Ln)))::h) ?_ Sb ⟨a129,c129,0,Nat.zero_le _,rfl,rfl,rfl⟩ ?_;exact Su;rintro _ _ _ ⟨a9,c9,j,hj,rfl,rfl,rfl⟩;refine B1 rfl ?_;refine kQ1 [0,2,132,133,134,135] ?_;refine wc (fun c135=>?_) fun c135=>?_
 replace c135:=dT c135;obtain⟨v,hv⟩:=A5 (l:=s.vs.l) (k:=j) (by omega);have hvm:=List.mem_of_getElem? hv;have hvi:=(hO.v.ok _ hvm).rd;have hvn:=hO.vw _ hvm;have hv3v:=hv3 _ hvm;have hst:C3 (B5 (C3 (C3 st (d,T6)) (d+1,[A1 [67,65,83,69]])) ((s.vs.l.take j).map fun v=>((d+2,J0 v):Ln))) (d+2,J0 v)=(B5 (C3 (C3 st (d,T6)) (d+1,[A1 [67,65,83,69]])) ((s.vs.l.take (j+1)).map fun v=>((d+2,J0 v):Ln))):=by rw[a1w hv,List.map_append,List.map_singleton,<- b2I]
 have hvt:J0 v=[N6 v.tag]++a1E [59] (C9 [59] a0j v.items):=rfl;refine kQ0 [0,2,132,133,134] ?_;refine kA2 ?_;refine xW fun b8=>?_
 refine kQ1 [0,2,8,132,133,134] ?_;refine Z4 [5,8,9,10,4096] (.op 0 (.op 1 (.op 2 (.op 3 (.op 4 (.op 6 (.op 7 (.op 5 (.op 8 (.op 9 (.op 10 .nil))))))))))) [11] _ [] D6 (fun _ _ _ h=>a0H h) [] (by kernel_rfl) ?_;refine kA2 ?_;refine yG rfl (M2 Et Ek (by omega)) ?_;refine kA4 ?_;refine G4 rfl rfl Ef (E1 Et) (fun fr=>a1o v.tag _ _) Lb fun a143 c143=>?_
 refine G4 rfl rfl Ef (E3 Et Ek Ef) (fun fr=>a8o 167 a0j [59] _ _ _ v.items _ (hvi.mono Vl Sb) (by omega) (fun x _=>Nat.le_trans (a9l x) (by decide)) (fun x _ h2 _=>b1h hg x h2)) Lb fun a146 c146=>?_
 refine G4 rfl rfl Ef (E2 Ek Et) (fun fr=>CT.knowRow Tryz.call168 (a:=a146) (List.mem_append_right _ Me) (fun p9 q9 r9=>b0a hg [59] (by decide) _ _ _ (C9 [59] a0j v.items) _ (Rd.ofRow r9 p9 q9 (List.mem_append_right _ Me)) (Nat.le_trans (a7s [59] v.items (by omega)) (by decide)))) Lb fun a147 c147=>?_
 refine sB rfl K7 fun b148=>?_
 refine SR.nil rfl rfl ?_;refine kR a143 fun p143 q143 r143=>?_
 refine kR a147 fun p147 q147 r147=>?_
 refine WL.perm ((Del.perm (r:=prB b a9 c9 (B5 (C3 (C3 st (d,T6)) (d+1,[A1 [67,65,83,69]])) ((s.vs.l.take j).map fun v=>((d+2,J0 v):Ln)))) De).trans ((Del.perm (r:=prW a9 c9 (B5 (C3 (C3 st (d,T6)) (d+1,[A1 [67,65,83,69]])) ((s.vs.l.take j).map fun v=>((d+2,J0 v):Ln)))) De).cons _)) ?_;refine xg (E3 Et Et Et) (F8 hg hp b a9 c9 (B5 (C3 (C3 st (d,T6)) (d+1,[A1 [67,65,83,69]])) ((s.vs.l.take j).map fun v=>((d+2,J0 v):Ln))) (d+2) _ 2 _ [⟨a143,c143,[N6 v.tag]⟩,⟨a147,c147,a1E [59] (C9 [59] a0j v.items)⟩] (J0 v) _ (Rd.ofPt rfl (by decide) Me) (B3 (iR r143 p143 q143) (B3 (iR r147 p147 q147) H1)) (by decide) (B3 (by simp) (B3 (b3u [59] (a7s [59] v.items (by omega))) H1)) (by rw[hvt];simp) (by rw[hvt];exact G0 (a8K (hvg v hvm)) (c0P (by decide) b7J)) (Y2 _ (R0 (R0 hn)))) ?_;rintro _ _ ⟨a149,c149,rfl⟩;rw[hst];refine kQ0 [0,2,132,133,134] ?_;refine kA2 ?_
 refine WL.nil (A4 (s.vs.l.length - (j+1)) [(134,.int .i64 (j+1))] (h'':=prB b a149 c149 (B5 (C3 (C3 st (d,T6)) (d+1,[A1 [67,65,83,69]])) ((s.vs.l.take (j+1)).map fun v=>((d+2,J0 v):Ln)))::prW a149 c149 (B5 (C3 (C3 st (d,T6)) (d+1,[A1 [67,65,83,69]])) ((s.vs.l.take (j+1)).map fun v=>((d+2,J0 v):Ln)))::h) (by omega) ?_ Su Sb ⟨a149,c149,j+1,by omega,rfl,rfl,rfl⟩);exact Su;replace c135:=dF c135;rw[List.take_of_length_le (by omega)];refine kQ0 [0,2] ?_;refine kA2 ?_;refine xY M1 Eb fun b153=>?_
 refine xg (E1 Et) (C2 hg _ 1 _ [[58]] _ Rr (by decide) (by decide)) ?_;rintro _ _ ⟨a154,c154,_,rfl,rfl,rfl⟩;refine xY K7 Eb fun b155=>?_
 refine kR a154 fun p154 q154 r154=>?_
 refine WL.perm ((Del.perm (r:=prB b a9 c9 (B5 (C3 (C3 st (d,T6)) (d+1,[A1 [67,65,83,69]])) (s.vs.l.map fun v=>((d+2,J0 v):Ln)))) De).trans ((Del.perm (r:=prW a9 c9 (B5 (C3 (C3 st (d,T6)) (d+1,[A1 [67,65,83,69]])) (s.vs.l.map fun v=>((d+2,J0 v):Ln)))) De).cons _)) ?_;refine xg (E3 Et Et Et) (F8 hg hp b a9 c9 (B5 (C3 (C3 st (d,T6)) (d+1,[A1 [67,65,83,69]])) (s.vs.l.map fun v=>((d+2,J0 v):Ln))) d _ 1 _ [⟨a154,c154,[A1 [58]]⟩] ([A1 [58]]) _ (Rd.ofPt rfl (by decide) Me) (B3 (iR r154 p154 q154) H1) (by decide) (B3 (by simp) H1) (by simp) ((T7 (by decide))) (Y2 _ (R0 (R0 hn)))) ?_;rintro _ _ ⟨a156,c156,rfl⟩;rw[show C3 (B5 (C3 (C3 st (d,T6)) (d+1,[A1 [67,65,83,69]])) (s.vs.l.map fun v=>((d+2,J0 v):Ln))) (d,[A1 [58]])=B5 st (J6 s d) by rw[hls,a0d,a0d,Y1];rfl];refine WL.nil (w0 (prB b a156 c156 (B5 st (J6 s d))::prW a156 c156 (B5 st (J6 s d))::h) ?_);exact⟨a156,c156,rfl⟩;replace c92:=F7 c92;omega
end
section
open Go.Eng Go.Pc Go.Sx Go
open Go.Xp hiding B D5
open Go.Ty (Ty Vr Tok eqT tyV I4 B2 B4 R1 zeroK L7 D3 encV D7 prL prV PrOk VOk mayPr hdV)
open Go.Lx (encB C4 textO)
open Go.Ly (Rw O6 G8)
theorem a4k (k:Int):(C0 k).1.t1<=9/\(C0 k).1.e1<=9/\((C0 k).2=true->1<=k/\k<=18):=by
 by_cases h:1<=k/\k<=18
 ·refine⟨?_,?_,fun _=>h⟩ <;>
  (obtain h | h | h | h | h | h | h | h | h | h | h | h | h | h | h | h | h | h:k=1\/k=2\/k=3\/k=4\/k=5\/k=6\/k=7\/k=8\/k=9\/k=10\/k=11\/k=12\/k=13\/k=14\/k=15\/k=16\/k=17\/k=18:=by omega) <;> (rw[h];decide)
 ·have e:C0 k=(us0,false):=by
   unfold C0;repeat rw[if_neg (by omega)]
  rw[e];exact⟨by decide,by decide,nofun⟩
theorem b8w {p:Pr} (h:Q7 p=true) (hk:p.k=11):p.pn.l.length=p.ll.length:=by
 unfold Q7 at h;split at h
 ·cases h
 ·have key:V0 p (C0 p.k).1=true:=by
   split at h
   ·rw[hk] at h;cases h
   ·exact h
  rw[hk] at key;unfold V0 at key;simp only[Bool.and_eq_true] at key;have:=(T0 key.1.2).2;have e:((C0 11).1).procs=true:=rfl;rw[e] at this;simp only[if_true] at this;omega
def c1s (k:Int) (n:Int) (x:Pr) (d:Int):List Ln:=if k=11 then (d+1,[A1 [80,82,79,67,69,83,83,79,82],⟨3,0,[],IntKind.i32.wrap n⟩])::I3 x (d+2) else I3 x (d+1)
theorem a5Z {k:Int} {x:Pr} {d:Int}:∀ {ns:List Int} {l:List Pr} {j:Nat},l[j]?=some x->E7 k ns (l.take (j+1)) d=E7 k ns (l.take j) d++c1s k ((ns.drop j).headD 0) x d
 | ns,[],j,h=>by cases h
 | ns,y::l,0,h=>by
  cases h;show(if k=11 then _ else _)++E7 k ns.tail [] d=[]++c1s k (ns.headD 0) x d;rw[show E7 k ns.tail [] d=[] by cases ns.tail <;> rfl,List.append_nil,List.nil_append];rfl
 | ns,y::l,j+1,h=>by
  have ih:=a5Z (k:=k) (d:=d) (ns:=ns.tail) (l:=l) (j:=j) (by simpa using h);show(if k=11 then _ else _)++E7 k ns.tail (l.take (j+1)) d=((if k=11 then _ else _)++E7 k ns.tail (l.take j) d)++_;rw[ih,List.append_assoc];cases ns <;> simp
theorem a4T {d:Int} {g:Gu}:∀ {l:List Gu} {j:Nat},l[j]?=some g->J2 (l.take (j+1)) d=J2 (l.take j) d++W6 g d
 | [],j,h=>by cases h
 | y::l,0,h=>by
  cases h;exact List.append_nil _
 | y::l,j+1,h=>by
  have ih:=a4T (d:=d) (l:=l) (j:=j) (by simpa using h);show W6 y d++J2 (l.take (j+1)) d=(W6 y d++J2 (l.take j) d)++_;rw[ih,List.append_assoc]
theorem b4p (p:Pr) (d:Int):I3 p d=if p.k=18 then J6 p.sp d++a0W p.ll d else (d,A8 p.k p.name p.ch p.tg.l p.ex.l p.rep)::(E7 p.k p.pn.l p.ll d++J2 p.gl (d+1)):=by cases p;rfl
theorem c0G {l:List Int} {j:Nat} {y:Int} (h:l[j]?=some y):(l.drop j).headD 0=y:=by
 have h1:=(List.getElem?_eq_some_iff.1 h);rw[List.drop_eq_getElem_cons h1.1];exact h1.2
theorem c2C (v:Int):-2147483648<=IntKind.i32.wrap v/\IntKind.i32.wrap v<=2147483647:=by
 unfold IntKind.wrap;simp[IntKind.bits,IntKind.signed];omega
theorem c1o (y:Int):TkL [A1 [80,82,79,67,69,83,83,79,82],⟨3,0,[],IntKind.i32.wrap y⟩]:=a5S (T7 (by decide)) (fun x hx=>by
 rw[List.mem_singleton] at hx;subst hx;exact⟨c2C y,Nat.zero_le _⟩)
set_option maxHeartbeats 4000000 in
theorem b8A {m:View} (hg:Glob m) (hp:Pow m) (p:Pr):PRC m p:=by
 refine Pr.ind (q:=fun p=>PRC m p) (fun p ih b a c st d h hP hv hd hn=>?_) p;have hV:=hv.own;have hO:=hP.own;have hkk:=(a4k p.k).2.2 hV.kd;have hls:=b4p p d;have hrl:=hO.l;have hrn:=hO.pn;have hrg:=hO.g;have hlx:=Nat.le_trans hrl.le hrl.mx;have hgx:=Nat.le_trans hrg.le hrg.mx;have hpl:Q7 p=true:=by cases hv with | mk q _=>exact q
 refine CT.body Tryz.call54 Tryz.func54 rfl Tryz.ntmps54 Lb rfl ?_;refine j0 ?_;refine xX fun b4=>?_
 refine kQ0 [0,2,4] ?_;refine kQ3 [0,2,4,12] ?_;refine wc (fun c12=>?_) fun c12=>?_
 replace c12:=F9 c12;have hrp:p.rep.name=[]:=by
  by_cases e:p.rep.name=[]
  ·exact e
  ·have:=hV.rp e;rw[c12] at this;cases this
 have hpn:=hV.pn hrp;rw[c12] at hpn;have hl1:p.ll.length=1:=by
  have e1:(C0 18).1.p0=1:=rfl;have e2:(C0 18).1.p1=1:=rfl;rw[e1,e2] at hpn;omega
 obtain⟨y,hy⟩:=A5 (l:=p.ll) (k:=0) (by omega);have hin:In y p:=.l (List.mem_of_getElem? hy);have hle:p.ll=[y]:=by
  cases hb:p.ll with
  | nil=>rw[hb] at hy;cases hy
  | cons z r=>
   rw[hb] at hy hl1;cases hy;cases r with
   | nil=>rfl
   | cons u v=>simp at hl1
 have hlt:=hin.lt;rw[if_pos c12] at hls;refine kA4 ?_;refine WL.perm ((Del.perm (r:=prB b a c st) De).trans ((Del.perm (r:=prW a c st) De).cons _)) ?_;refine xg (E3 Et Et Et) (b6o hg hp p.sp b a c st d _ (hO.sp.mono Sb) (hV.sp (by rw[c12];rfl)) (fun x hx=>⟨(hP.sub (.s hx)).mono Sb,hv.sub (.s hx),ih x (.s hx),by have:=(In.s hx).lt;omega⟩) (by omega) hn) ?_;rintro _ _ ⟨a17,c17,rfl⟩;refine kQ0 [0,2,4] ?_;refine kA3 ?_;refine xG (G1 Z8.und Z8.size Z8.posz (Ev.tmp rfl) Ek Rr rfl (q:=0) (by omega)) ?_;refine kA2 ?_;refine WL.perm ((Del.perm (r:=prB b a17 c17 (B5 st (J6 p.sp d))) De).trans ((Del.perm (r:=prW a17 c17 (B5 st (J6 p.sp d))) De).cons _)) ?_;refine xg (E3 Et Et Et) (ih y hin b a17 c17 (B5 st (J6 p.sp d)) d _ ((hP.sub hin).mono Sb) (hv.sub hin) (by omega) (Y2 _ hn)) ?_;rintro _ _ ⟨a24,c24,rfl⟩;rw[show B5 (B5 st (J6 p.sp d)) (I3 y d)=B5 st (I3 p d) by rw[hls,Y1,hle];rfl]
 refine kQ0 [] ?_;refine WC.ret (a9h (h':=prB b a24 c24 (B5 st (I3 p d))::prW a24 c24 (B5 st (I3 p d))::h) (.inl rfl) rfl  Vl Sb ?_);exact⟨a24,c24,rfl⟩;replace c12:=F7 c12;rw[if_neg c12] at hls;have hTg:p.tg.l.length<=9:=by
  have h1:=hV.tn.2;have h2:=(a4k p.k).1;omega
 have hEx:p.ex.l.length<=9:=by
  have h1:=hV.en.2;have h2:=(a4k p.k).2.1;omega
 refine kQ0 [0,2,4] ?_;refine kA3 ?_;refine WL.perm ((Del.perm (r:=prB b a c st) De).trans ((Del.perm (r:=prW a c st) De).cons _)) ?_;refine xg (E3 Et Et Et) (b5S hg hp p b a c st d _ (hO.mono Sb) hTg hEx (by omega) (b5e hO) hn) ?_;rintro _ _ ⟨a28,c28,rfl⟩;refine kQ0 [0,2,4] ?_;refine kQ4 [0,2,4,30,31,32] ?_
 refine B0 [0,2,4,30,31] rfl (fun μ F' h'=>∃ a9:Option Addr,∃ c9:Nat,∃ j:Nat,(j<=p.ll.length)/\p.ll.length - j=μ/\F'=[(32,.int .i64 j)]/\prB b a9 c9 (B5 (C3 st (d,A8 p.k p.name p.ch p.tg.l p.ex.l p.rep)) (E7 p.k p.pn.l (p.ll.take j) d))::prW a9 c9 (B5 (C3 st (d,A8 p.k p.name p.ch p.tg.l p.ex.l p.rep)) (E7 p.k p.pn.l (p.ll.take j) d))::.pt b4 (.cells (prE p).toArray 46 (0,0))::h=h') (p.ll.length - 0) [(32,.int .i64 0)] (h0:=prB b a28 c28 (B5 (C3 st (d,A8 p.k p.name p.ch p.tg.l p.ex.l p.rep)) (E7 p.k p.pn.l (p.ll.take 0) d))::prW a28 c28 (B5 (C3 st (d,A8 p.k p.name p.ch p.tg.l p.ex.l p.rep)) (E7 p.k p.pn.l (p.ll.take 0) d))::.pt b4 (.cells (prE p).toArray 46 (0,0))::h) ?_ Sb ⟨a28,c28,0,Nat.zero_le _,rfl,rfl,rfl⟩ ?_;exact Su;rintro _ _ _ ⟨a9,c9,j,hj,rfl,rfl,rfl⟩;refine B1 rfl ?_;refine kQ1 [0,2,4,30,31,32,33] ?_;refine wc (fun c33=>?_) fun c33=>?_
 replace c33:=dT c33;obtain⟨x,hx⟩:=A5 (l:=p.ll) (k:=j) (by omega);have hin:In x p:=.l (List.mem_of_getElem? hx);have hlt:=hin.lt;have htk:=a5Z (k:=p.k) (d:=d) (ns:=p.pn.l) hx;unfold c1s at htk;have hnj:(B5 (C3 st (d,A8 p.k p.name p.ch p.tg.l p.ex.l p.rep)) (E7 p.k p.pn.l (p.ll.take j) d)).1.length<=2049:=Y2 _ (R0 hn);refine kQ0 [0,2,4,30,31,32] ?_;refine kA3 ?_;refine xW fun b7=>?_
 refine kQ2 [0,2,4,6,7,30,31,32] ?_;refine kQ3 [0,2,4,6,7,30,31,32,39] ?_;refine wc (fun c39=>?_) fun c39=>?_
 replace c39:=F9 c39;have hpk:=b8w hpl c39;obtain⟨y,hy⟩:=A5 (l:=p.pn.l) (k:=j) (by omega);rw[if_pos c39,c0G hy] at htk;refine jE ?_;refine Z4 [3,4,12,13,4096] (.op 0 (.op 1 (.op 2 (.op 5 (.op 6 (.op 7 (.op 8 (.op 9 (.op 10 (.op 11 (.op 3 (.op 4 (.op 12 (.op 13 .nil)))))))))))))) [14] _ [] D6 (fun _ _ _ h=>a0H h) [] (by kernel_rfl) ?_;refine kA2 ?_;refine yG rfl (M2 Et Ek (by omega)) ?_;refine kA5 ?_;refine yG rfl (PO.conv uu3 a2o Et) ?_;refine yG rfl (PO.build H2 rfl rfl rfl Eb (by exact rfl)) ?_;refine sB rfl M1 fun b43=>?_
 refine G4 rfl rfl Ef (E1 (Ev.tmp rfl)) (fun fr=>C2 hg _ 1 _ [[80,82,79,67,69,83,83,79,82]] _ (Rd.fr Rr fr) (by decide) (by decide)) Lb fun a44 c44=>?_
 refine sB rfl A6 fun b52=>?_
 refine sB rfl K7 fun b53=>?_
 refine SR.nil rfl rfl ?_;refine kR a44 fun p44 q44 r44=>?_
 refine WL.perm ((Del.perm (r:=prB b a9 c9 (B5 (C3 st (d,A8 p.k p.name p.ch p.tg.l p.ex.l p.rep)) (E7 p.k p.pn.l (p.ll.take j) d))) De).trans ((Del.perm (r:=prW a9 c9 (B5 (C3 st (d,A8 p.k p.name p.ch p.tg.l p.ex.l p.rep)) (E7 p.k p.pn.l (p.ll.take j) d))) De).cons _)) ?_;refine xg (E3 Et Et Et) (F8 hg hp b a9 c9 (B5 (C3 st (d,A8 p.k p.name p.ch p.tg.l p.ex.l p.rep)) (E7 p.k p.pn.l (p.ll.take j) d)) (d+1) _ 2 _ [⟨a44,c44,[A1 [80,82,79,67,69,83,83,79,82]]⟩,⟨some ⟨b52,0,none⟩,1,[⟨3,0,[],IntKind.i32.wrap y⟩]⟩] [A1 [80,82,79,67,69,83,83,79,82],⟨3,0,[],IntKind.i32.wrap y⟩] _ (Rd.ofPt rfl (by decide) Me) (B3 (iR r44 p44 q44) (B3 (Rd.ofPt rfl (show 1<=9223372036854775807 by decide) Me) H1)) (by decide) (B3 (by simp) (B3 (by simp) H1)) rfl (c1o y) hnj) ?_;rintro _ _ ⟨a54,c54,rfl⟩;refine kQ0 [0,2,4,7,30,31,32] ?_;refine kA4 ?_
 refine WL.perm ((Del.perm (r:=prB b a54 c54 (C3 (B5 (C3 st (d,A8 p.k p.name p.ch p.tg.l p.ex.l p.rep)) (E7 p.k p.pn.l (p.ll.take j) d)) (d+1,[A1 [80,82,79,67,69,83,83,79,82],⟨3,0,[],IntKind.i32.wrap y⟩]))) De).trans ((Del.perm (r:=prW a54 c54 (C3 (B5 (C3 st (d,A8 p.k p.name p.ch p.tg.l p.ex.l p.rep)) (E7 p.k p.pn.l (p.ll.take j) d)) (d+1,[A1 [80,82,79,67,69,83,83,79,82],⟨3,0,[],IntKind.i32.wrap y⟩]))) De).cons _)) ?_;refine xg (E3 Et Et Et) (ih x hin b a54 c54 (C3 (B5 (C3 st (d,A8 p.k p.name p.ch p.tg.l p.ex.l p.rep)) (E7 p.k p.pn.l (p.ll.take j) d)) (d+1,[A1 [80,82,79,67,69,83,83,79,82],⟨3,0,[],IntKind.i32.wrap y⟩])) (d+2) _ ((hP.sub hin).mono Sb) (hv.sub hin) (by omega) (R0 hnj)) ?_;rintro _ _ ⟨a59,c59,rfl⟩
 rw[show B5 (C3 (B5 (C3 st (d,A8 p.k p.name p.ch p.tg.l p.ex.l p.rep)) (E7 p.k p.pn.l (p.ll.take j) d)) (d+1,[A1 [80,82,79,67,69,83,83,79,82],⟨3,0,[],IntKind.i32.wrap y⟩])) (I3 x (d+2))=(B5 (C3 st (d,A8 p.k p.name p.ch p.tg.l p.ex.l p.rep)) (E7 p.k p.pn.l (p.ll.take (j+1)) d)) by rw[htk,Y1,a0d]];refine kQ0 [0,2,4,30,31,32] ?_;refine kQ0 [0,2,4,30,31,32] ?_;refine kA2 ?_;refine WL.nil (A4 (p.ll.length - (j+1)) [(32,.int .i64 (j+1))] (h'':=prB b a59 c59 (B5 (C3 st (d,A8 p.k p.name p.ch p.tg.l p.ex.l p.rep)) (E7 p.k p.pn.l (p.ll.take (j+1)) d))::prW a59 c59 (B5 (C3 st (d,A8 p.k p.name p.ch p.tg.l p.ex.l p.rep)) (E7 p.k p.pn.l (p.ll.take (j+1)) d))::.pt b4 (.cells (prE p).toArray 46 (0,0))::h) (by omega) ?_ Su Sb ⟨a59,c59,j+1,by omega,rfl,rfl,rfl⟩);exact Su;replace c39:=F7 c39;rw[if_neg c39] at htk;refine kQ0 [0,2,4,7,30,31,32] ?_;refine kA4 ?_
 refine WL.perm ((Del.perm (r:=prB b a9 c9 (B5 (C3 st (d,A8 p.k p.name p.ch p.tg.l p.ex.l p.rep)) (E7 p.k p.pn.l (p.ll.take j) d))) De).trans ((Del.perm (r:=prW a9 c9 (B5 (C3 st (d,A8 p.k p.name p.ch p.tg.l p.ex.l p.rep)) (E7 p.k p.pn.l (p.ll.take j) d))) De).cons _)) ?_;refine xg (E3 Et Et Et) (ih x hin b a9 c9 (B5 (C3 st (d,A8 p.k p.name p.ch p.tg.l p.ex.l p.rep)) (E7 p.k p.pn.l (p.ll.take j) d)) (d+1) _ ((hP.sub hin).mono Sb) (hv.sub hin) (by omega) hnj) ?_;rintro _ _ ⟨a64,c64,rfl⟩;rw[show B5 (B5 (C3 st (d,A8 p.k p.name p.ch p.tg.l p.ex.l p.rep)) (E7 p.k p.pn.l (p.ll.take j) d)) (I3 x (d+1))=(B5 (C3 st (d,A8 p.k p.name p.ch p.tg.l p.ex.l p.rep)) (E7 p.k p.pn.l (p.ll.take (j+1)) d)) by rw[htk,Y1]];refine kQ0 [0,2,4,30,31,32] ?_;refine kA2 ?_
 refine WL.nil (A4 (p.ll.length - (j+1)) [(32,.int .i64 (j+1))] (h'':=prB b a64 c64 (B5 (C3 st (d,A8 p.k p.name p.ch p.tg.l p.ex.l p.rep)) (E7 p.k p.pn.l (p.ll.take (j+1)) d))::prW a64 c64 (B5 (C3 st (d,A8 p.k p.name p.ch p.tg.l p.ex.l p.rep)) (E7 p.k p.pn.l (p.ll.take (j+1)) d))::.pt b4 (.cells (prE p).toArray 46 (0,0))::h) (by omega) ?_ Su Sb ⟨a64,c64,j+1,by omega,rfl,rfl,rfl⟩);exact Su;replace c33:=dF c33;rw[List.take_of_length_le (by omega)];refine kQ0 [0,2,4] ?_;refine kQ4 [0,2,67,68,69] ?_
 refine B0 [0,2,67,68] rfl (fun μ F' h'=>∃ a9:Option Addr,∃ c9:Nat,∃ j:Nat,(j<=p.gl.length)/\p.gl.length - j=μ/\F'=[(69,.int .i64 j)]/\prB b a9 c9 (B5 (B5 (C3 st (d,A8 p.k p.name p.ch p.tg.l p.ex.l p.rep)) (E7 p.k p.pn.l p.ll d)) (J2 (p.gl.take j) (d+1)))::prW a9 c9 (B5 (B5 (C3 st (d,A8 p.k p.name p.ch p.tg.l p.ex.l p.rep)) (E7 p.k p.pn.l p.ll d)) (J2 (p.gl.take j) (d+1)))::.pt b4 (.cells (prE p).toArray 46 (0,0))::h=h') (p.gl.length - 0) [(69,.int .i64 0)] (h0:=prB b a9 c9 (B5 (B5 (C3 st (d,A8 p.k p.name p.ch p.tg.l p.ex.l p.rep)) (E7 p.k p.pn.l p.ll d)) (J2 (p.gl.take 0) (d+1)))::prW a9 c9 (B5 (B5 (C3 st (d,A8 p.k p.name p.ch p.tg.l p.ex.l p.rep)) (E7 p.k p.pn.l p.ll d)) (J2 (p.gl.take 0) (d+1)))::.pt b4 (.cells (prE p).toArray 46 (0,0))::h) ?_ Sb ⟨a9,c9,0,Nat.zero_le _,rfl,rfl,rfl⟩ ?_;exact Su;rintro _ _ _ ⟨a9,c9,j,hj,rfl,rfl,rfl⟩;refine B1 rfl ?_;refine kQ1 [0,2,67,68,69,70] ?_
 refine wc (fun c70=>?_) fun c70=>?_
 replace c70:=dT c70;obtain⟨g,hg1⟩:=A5 (l:=p.gl) (k:=j) (by omega);have hgm:=List.mem_of_getElem? hg1;have hnj:(B5 (B5 (C3 st (d,A8 p.k p.name p.ch p.tg.l p.ex.l p.rep)) (E7 p.k p.pn.l p.ll d)) (J2 (p.gl.take j) (d+1))).1.length<=2049:=Y2 _ (Y2 _ (R0 hn));refine kQ0 [0,2,67,68,69] ?_;refine kA2 ?_;refine xW fun b9=>?_
 refine kQ1 [0,2,9,67,68,69] ?_;refine kA4 ?_;refine WL.perm ((Del.perm (r:=prB b a9 c9 (B5 (B5 (C3 st (d,A8 p.k p.name p.ch p.tg.l p.ex.l p.rep)) (E7 p.k p.pn.l p.ll d)) (J2 (p.gl.take j) (d+1)))) De).trans ((Del.perm (r:=prW a9 c9 (B5 (B5 (C3 st (d,A8 p.k p.name p.ch p.tg.l p.ex.l p.rep)) (E7 p.k p.pn.l p.ll d)) (J2 (p.gl.take j) (d+1)))) De).cons _)) ?_;refine xg (E3 Et Et Et) (b4x hg hp g b a9 c9 (B5 (B5 (C3 st (d,A8 p.k p.name p.ch p.tg.l p.ex.l p.rep)) (E7 p.k p.pn.l p.ll d)) (J2 (p.gl.take j) (d+1))) (d+1) _ ((hO.gs g hgm).mono Sb) (hV.gs g hgm).1 (fun x hx=>⟨(hP.sub (.g hgm hx)).mono Sb,hv.sub (.g hgm hx),ih x (.g hgm hx),by have:=(In.g hgm hx).lt;omega⟩) (by have:=a5h p;omega) hnj) ?_;rintro _ _ ⟨a77,c77,rfl⟩
 rw[show B5 (B5 (B5 (C3 st (d,A8 p.k p.name p.ch p.tg.l p.ex.l p.rep)) (E7 p.k p.pn.l p.ll d)) (J2 (p.gl.take j) (d+1))) (W6 g (d+1))=(B5 (B5 (C3 st (d,A8 p.k p.name p.ch p.tg.l p.ex.l p.rep)) (E7 p.k p.pn.l p.ll d)) (J2 (p.gl.take (j+1)) (d+1))) by rw[a4T hg1,Y1]];refine kQ0 [0,2,67,68,69] ?_;refine kA2 ?_;refine WL.nil (A4 (p.gl.length - (j+1)) [(69,.int .i64 (j+1))] (h'':=prB b a77 c77 (B5 (B5 (C3 st (d,A8 p.k p.name p.ch p.tg.l p.ex.l p.rep)) (E7 p.k p.pn.l p.ll d)) (J2 (p.gl.take (j+1)) (d+1)))::prW a77 c77 (B5 (B5 (C3 st (d,A8 p.k p.name p.ch p.tg.l p.ex.l p.rep)) (E7 p.k p.pn.l p.ll d)) (J2 (p.gl.take (j+1)) (d+1)))::.pt b4 (.cells (prE p).toArray 46 (0,0))::h) (by omega) ?_ Su Sb ⟨a77,c77,j+1,by omega,rfl,rfl,rfl⟩);exact Su;replace c70:=dF c70
 rw[List.take_of_length_le (by omega),show B5 (B5 (C3 st (d,A8 p.k p.name p.ch p.tg.l p.ex.l p.rep)) (E7 p.k p.pn.l p.ll d)) (J2 p.gl (d+1))=B5 st (I3 p d) by rw[hls,a0d,Y1]];refine WC.exit (a9h (h':=prB b a9 c9 (B5 st (I3 p d))::prW a9 c9 (B5 st (I3 p d))::h) (.inr rfl) rfl  Vl Sb ?_);exact⟨a9,c9,rfl⟩
end
section
open Go.Eng Go.Pc Go.Sx Go
open Go.Xp hiding B D5
open Go.Ty (Ty Vr Tok eqT tyV I4 B2 B4 R1 zeroK L7 D3 encV D7)
open Go.Lx (encB C4 textO)
open Go.Ly (Rw O6 G8)
theorem b8i (l:List Tok):(textO l).1.length<=256:=by
 unfold Go.Lx.textO;split
 ·exact Nat.zero_le _
 ·split
  ·exact Nat.zero_le _
  ·rename_i h
   simp only[decide_eq_true_eq] at h;show(Go.Lx.textL none l).length<=256;omega
theorem b2g {st:Ps} {x:Ln} (h:∀ y ∈ st.1,y.text.length<=256):∀ y ∈ (C3 st x).1,y.text.length<=256:=by
 unfold C3;split
 ·exact h
 ·intro y hy
  rcases List.mem_append.1 hy with q | q
  ·exact h y q
  ·rw[List.mem_singleton] at q
   subst q;exact b8i _
theorem a5T:∀ (l:List Ln) {st:Ps},(∀ y ∈ st.1,y.text.length<=256)->∀ y ∈ (B5 st l).1,y.text.length<=256
 | [],_,h=>h
 | x::l,_,h=>a5T l (b2g (x:=x) h)
abbrev c4q (m:View) (p:Pr) (h:List Res) (v:Value) (h':List Res):Prop:=
 ∃ a c bl,v=.tuple #[.slice a (S6 p).1.length c,.int .i64 (S6 p).2]/\Rd m bl a (S6 p).1.length c 3 (fl O6 (S6 p).1)/\h'=bl++h/\((S6 p).2=0->bl=[.row (.slice a (S6 p).1.length c) 53 3 (S6 p).1.length (fl O6 (S6 p).1)])
set_option maxHeartbeats 4000000 in
theorem b7y {m:View} (hg:Glob m) (hp:Pow m) (p:Pr) (h:List Res) (hO:POk m h p) :
 CT Tryz.prog 32 [prV p] h m (fun v _ h'=>c4q m p h v h'):=by
 have hq:S6 p=if mayP p then (if (B5 ([],false) (I3 p 0)).2||!Go.Ly.mayP (B5 ([],false) (I3 p 0)).1 then ([],3) else ((B5 ([],false) (I3 p 0)).1,0)) else ([],2):=rfl
 have hsh:=a5T (I3 p 0) (st:=([],false)) nofun;obtain⟨ST,hST⟩:∃ S,S=B5 ([],false) (I3 p 0):=⟨_,rfl⟩;rw[<- hST] at hq hsh;refine CT.body Tryz.call32 Tryz.func32 rfl Tryz.ntmps32 Lb rfl ?_;refine j0 ?_;refine xX fun b1=>?_
 refine kQ2 [1] ?_;refine kA1 ?_;refine xf (E1 Et) (a9X hg p (hO.mono Sb)) ?_;refine kQ1 [1,7] ?_;refine wc (fun c7=>?_) fun c7=>?_
 have d7:mayP p=false:=by simpa using c7
 rw[if_neg (G6 d7)] at hq;refine kQ2 [2,3] ?_;refine w2 h ?_;exact⟨none,0,[],by rw[hq];rfl,by rw[hq];exact Rd.nilF O6 3 _ _,rfl,by rw[hq];intro e;cases e⟩;have d7:mayP p=true:=by simpa using c7
 rw[if_pos d7] at hq;obtain⟨hv,hc⟩:=b8C d7;refine kQ0 [1] ?_;refine kA1 ?_;refine xX fun b9=>?_
 refine kQ1 [1,4] ?_;refine kA2 ?_;refine WL.addNil 53 3 ?_;refine WL.perm ((Del.perm (r:=prB b9 none 0 ([],false)) De).trans ((Del.perm (r:=prW none 0 ([],false)) De).cons _)) ?_;refine xg (E3 Et Et Ek) (b8A hg hp p b9 none 0 ([],false) 0 _ (hO.mono Sb) hv ⟨by omega,by omega⟩ (Nat.zero_le _)) ?_;rintro _ _ ⟨a12,c12,rfl⟩;rw[<- hST];refine kR a12 fun p12 q12 r12=>?_
 refine kQ0 [4] ?_;refine kA6 ?_;refine zG (fun hc=>PO.nilCheck (Eg hc)) ?_;refine kA2 ?_;refine A7 (GU.f rfl rfl) (fun hc=>⟨Ef,(E1 (Eg hc)),Ly7.may_ct hg a12 _ c12 ST.1 _ (iR r12 p12 q12) (fun x hx=>by have:=hsh x hx;omega)⟩) Lb ?_;refine kQ2 [4,24] ?_;refine wc (fun c24=>?_) fun c24=>?_
 rw[if_pos (by simpa using c24)] at hq;refine kQ2 [2,3] ?_;refine w2 h ?_;exact⟨none,0,[],by rw[hq];rfl,by rw[hq];exact Rd.nilF O6 3 _ _,rfl,by rw[hq];intro e;cases e⟩;rw[if_neg (by simpa using c24)] at hq;refine kQ0 [4] ?_;refine kQ6 [2,3] ?_;refine w2 (prW a12 c12 ST::h) ?_;exact⟨a12,c12,[prW a12 c12 ST],by rw[hq],by rw[hq];exact Rd.ofRow r12 p12 q12 (List.mem_singleton.2 rfl),rfl,fun _=>by rw[hq]⟩
end
section
open Go.Eng Go.Xp Go
open Go.Lx (encB C4)
end
section
open Go.Eng Go.Pc Go
open Go.Xp hiding B D5
open Go.Ty (Ty Vr eqT tyV I4 PrOk VOk prL encV D7 L7 D3)
open Go.Lx (encB C4)
end
section
open Go.Eng Go.Pc Go
open Go.Xp hiding B D5
open Go.Ty (Ty Vr eqT tyV I4 PrOk VOk encV D7 L7 D3 eqI a1Y a1X)
open Go.Lx (encB C4)
def eqB (x y:B):Bool:=x==y
theorem c1F {x y:B} (h:(!(x==y))=true):eqB x y=false:=by simpa [eqB] using h
theorem c1L {x y:B} (h:(!(x==y))=false):eqB x y=true:=by simpa [eqB] using h
theorem b0f (s1 s2:Option Addr) (n1 c1 n2 c2:Nat) (xs ys:List _) (h:List Res) (m:View) (h1:Rd m h s1 n1 c1 1 (fl encB xs)) (h2:Rd m h s2 n2 c2 1 (fl encB ys)) :
 CT Tryz.prog 110 [.slice s1 n1 c1,.slice s2 n2 c2] h m (A3 h (.bool (eqL eqB xs ys))):=by
 have l1:=h1.lenF C4 (by decide);have l2:=h2.lenF C4 (by decide);have m1:=h1.mx;have m2:=h2.mx;have k1:=h1.le;have k2:=h2.le;refine CT.body Tryz.call110 Tryz.func110 rfl Tryz.ntmps110 Lb rfl ?_;refine kQ1 [0,1] ?_;refine kQ5 [0,1,10] ?_;refine wc (fun c10=>?_) fun c10=>?_
 replace c10:=a1i c10;refine kQ1 [4] ?_;refine wT h ?_;exact⟨by rw[P3 _ _ _ (by omega)],rfl⟩;replace c10:=a0U c10;refine kQ0 [0,1] ?_;refine kQ1 [0,1,5] ?_;refine B0 [0,1] rfl (fun μ F' h'=>∃ k:Nat,(k<=n1/\eqL eqB xs ys=eqL eqB (xs.drop k) (ys.drop k))/\n1 - k=μ/\F'=[(5,.int .i64 k)]/\h=h') (n1 - 0) [(5,.int .i64 0)] (h0:=h) ?_ Sb ⟨0,⟨by omega,by simp⟩,rfl,rfl,rfl⟩ ?_;exact Su;rintro _ _ _ ⟨k,⟨hk,hJ⟩,rfl,rfl,rfl⟩;refine B1 rfl ?_;refine kQ4 [0,1,5,14] ?_;refine wc (fun c14=>?_) fun c14=>?_
 replace c14:=dT c14;obtain⟨x,hx⟩:=A5 (l:=xs) (k:=k) (by omega);obtain⟨y,hy⟩:=A5 (l:=ys) (k:=k) (by omega);rw[N9 _ hx hy] at hJ;refine kQ0 [0,1,5] ?_;refine dS [] (.op 0 (.op 1 (.op 2 (.op 3 (.op 4 (.op 5 (.op 6 (.op 7 .nil)))))))) [8] D6 ?_;refine kA8 ?_;refine SR.nil rfl rfl ?_;refine xG (P2 Et Et) ?_;refine kQ0 [0,1,5,25] ?_;refine wc (fun c25=>?_) fun c25=>?_
 refine kQ1 [4] ?_;refine wT h ?_;exact⟨by rw[hJ,c1F c25];rfl,rfl⟩;rw[c1L c25,Bool.true_and] at hJ;refine kQ0 [0,1,5] ?_;refine kA3 ?_;refine WL.nil (A4 (n1 - (k+1)) [(5,.int .i64 (k+1))] (h'':=h) (by omega) ?_ Su Sb ⟨k+1,⟨by omega,hJ⟩,rfl,rfl,rfl⟩);exact Su;replace c14:=dF c14;refine kQ0 [] ?_;refine kQ1 [4] ?_;refine wT h ?_;exact⟨by rw[hJ,List.drop_eq_nil_of_le (by omega),List.drop_eq_nil_of_le (by omega)];rfl,rfl⟩
theorem a5Q (s1 s2:Option Addr) (n1 c1 n2 c2:Nat) (xs ys:List _) (h:List Res) (m:View) (h1:Rd m h s1 n1 c1 1 (fl L7 xs)) (h2:Rd m h s2 n2 c2 1 (fl L7 ys)) :
 CT Tryz.prog 175 [.slice s1 n1 c1,.slice s2 n2 c2] h m (A3 h (.bool (eqL eqI xs ys))):=by
 have l1:=h1.lenF D3 (by decide);have l2:=h2.lenF D3 (by decide);have m1:=h1.mx;have m2:=h2.mx;have k1:=h1.le;have k2:=h2.le;refine CT.body Tryz.call175 Tryz.func175 rfl Tryz.ntmps175 Lb rfl ?_;refine kQ1 [0,1] ?_;refine kQ5 [0,1,10] ?_;refine wc (fun c10=>?_) fun c10=>?_
 replace c10:=a1i c10;refine kQ1 [4] ?_;refine wT h ?_;exact⟨by rw[P3 _ _ _ (by omega)],rfl⟩;replace c10:=a0U c10;refine kQ0 [0,1] ?_;refine kQ1 [0,1,5] ?_;refine B0 [0,1] rfl (fun μ F' h'=>∃ k:Nat,(k<=n1/\eqL eqI xs ys=eqL eqI (xs.drop k) (ys.drop k))/\n1 - k=μ/\F'=[(5,.int .i64 k)]/\h=h') (n1 - 0) [(5,.int .i64 0)] (h0:=h) ?_ Sb ⟨0,⟨by omega,by simp⟩,rfl,rfl,rfl⟩ ?_;exact Su;rintro _ _ _ ⟨k,⟨hk,hJ⟩,rfl,rfl,rfl⟩;refine B1 rfl ?_;refine kQ4 [0,1,5,14] ?_;refine wc (fun c14=>?_) fun c14=>?_
 replace c14:=dT c14;obtain⟨x,hx⟩:=A5 (l:=xs) (k:=k) (by omega);obtain⟨y,hy⟩:=A5 (l:=ys) (k:=k) (by omega);rw[N9 _ hx hy] at hJ;refine kQ0 [0,1,5] ?_;refine dS [] (.op 0 (.op 1 (.op 2 (.op 3 (.op 4 (.op 5 (.op 6 (.op 7 .nil)))))))) [8] D6 ?_;refine kA8 ?_;refine SR.nil rfl rfl ?_;refine kQ1 [0,1,5,25] ?_;refine wc (fun c25=>?_) fun c25=>?_
 refine kQ1 [4] ?_;refine wT h ?_;exact⟨by rw[hJ,a1X c25];rfl,rfl⟩;rw[a1Y c25,Bool.true_and] at hJ;refine kQ0 [0,1,5] ?_;refine kA3 ?_;refine WL.nil (A4 (n1 - (k+1)) [(5,.int .i64 (k+1))] (h'':=h) (by omega) ?_ Su Sb ⟨k+1,⟨by omega,hJ⟩,rfl,rfl,rfl⟩);exact Su;replace c14:=dF c14;refine kQ0 [] ?_;refine kQ1 [4] ?_;refine wT h ?_;exact⟨by rw[hJ,List.drop_eq_nil_of_le (by omega),List.drop_eq_nil_of_le (by omega)];rfl,rfl⟩
structure GK (m:View) (h:List Res) (g:Gu):Prop where
 o:GOk m h g
 b:∀ x ∈ g.bl,POk m h x
theorem GK.mono {m:View} {h h':List Res} {g:Gu} (q:GK m h g) (r:h.Sublist h'):GK m h' g:=⟨q.o.mono r,fun x hx=>(q.b x hx).mono r⟩
theorem a1C (xs:List Ex) (ys:List Ex) (s1 s2:Option Addr) (n1 c1 n2 c2:Nat) (h:List Res) (m:View) (h1:Rd m h s1 n1 c1 6 (fl exE xs)) (h2:Rd m h s2 n2 c2 6 (fl exE ys)) (o1:∀ x ∈ xs,TOk m h x) (o2:∀ x ∈ ys,TOk m h x) :
 CT Tryz.prog 56 [.slice s1 n1 c1,.slice s2 n2 c2] h m (A3 h (.bool (eqL E5 xs ys))):=by
 have l1:=h1.lenF a3X (by decide);have l2:=h2.lenF a3X (by decide);have m1:=h1.mx;have m2:=h2.mx;have k1:=h1.le;have k2:=h2.le;refine CT.body Tryz.call56 Tryz.func56 rfl Tryz.ntmps56 Lb rfl ?_;refine kQ1 [0,1] ?_;refine kQ5 [0,1,10] ?_;refine wc (fun c10=>?_) fun c10=>?_
 replace c10:=a1i c10;refine kQ1 [4] ?_;refine wT h ?_;exact⟨by rw[P3 _ _ _ (by omega)],rfl⟩;replace c10:=a0U c10;refine kQ0 [0,1] ?_;refine kQ1 [0,1,5] ?_;refine B0 [0,1] rfl (fun μ F' h'=>∃ k:Nat,(k<=n1/\eqL E5 xs ys=eqL E5 (xs.drop k) (ys.drop k))/\n1 - k=μ/\F'=[(5,.int .i64 k)]/\h=h') (n1 - 0) [(5,.int .i64 0)] (h0:=h) ?_ Sb ⟨0,⟨by omega,by simp⟩,rfl,rfl,rfl⟩ ?_;exact Su;rintro _ _ _ ⟨k,⟨hk,hJ⟩,rfl,rfl,rfl⟩;refine B1 rfl ?_;refine kQ4 [0,1,5,14] ?_;refine wc (fun c14=>?_) fun c14=>?_
 replace c14:=dT c14;obtain⟨x,hx⟩:=A5 (l:=xs) (k:=k) (by omega);obtain⟨y,hy⟩:=A5 (l:=ys) (k:=k) (by omega);rw[N9 _ hx hy] at hJ;have hxm:=List.mem_of_getElem? hx;have hxo:=o1 x hxm;have hyo:=o2 y (List.mem_of_getElem? hy);refine kQ0 [0,1,5] ?_;refine dS [] (.op 0 (.op 1 (.op 2 (.op 3 (.op 4 (.op 5 (.op 6 (.op 7 .nil)))))))) [8,9] D6 ?_;refine kA8 ?_;refine SR.nil rfl rfl ?_;refine xf (E2 Et Et) (a0i x y _ _ (hxo.mono Sb) (hyo.mono Sb)) ?_;refine kQ1 [0,1,5,26] ?_;refine wc (fun c26=>?_) fun c26=>?_
 have d26:E5 x y=false:=by simpa using c26
 rw[d26] at hJ;refine kQ1 [4] ?_;refine wT h ?_;exact⟨by rw[hJ];rfl,rfl⟩;have d26:E5 x y=true:=by simpa using c26
 rw[d26,Bool.true_and] at hJ;refine kQ0 [0,1,5] ?_;refine kA3 ?_;refine WL.nil (A4 (n1 - (k+1)) [(5,.int .i64 (k+1))] (h'':=h) (by omega) ?_ Su Sb ⟨k+1,⟨by omega,hJ⟩,rfl,rfl,rfl⟩);exact Su;replace c14:=dF c14;refine kQ0 [] ?_;refine kQ1 [4] ?_;refine wT h ?_;exact⟨by rw[hJ,List.drop_eq_nil_of_le (by omega),List.drop_eq_nil_of_le (by omega)];rfl,rfl⟩
theorem a3q (xs:List Pr) (ih:∀ x ∈ xs,∀ (y:Pr) (h:List Res) (m:View),POk m h x->POk m h y->CT Tryz.prog 34 [prV x,prV y] h m (A3 h (.bool (J7 x y)))) (ys:List Pr) (s1 s2:Option Addr) (n1 c1 n2 c2:Nat) (h:List Res) (m:View) (h1:Rd m h s1 n1 c1 42 (fl prE xs)) (h2:Rd m h s2 n2 c2 42 (fl prE ys)) (o1:∀ x ∈ xs,POk m h x) (o2:∀ x ∈ ys,POk m h x) :
 CT Tryz.prog 58 [.slice s1 n1 c1,.slice s2 n2 c2] h m (A3 h (.bool (eqL J7 xs ys))):=by
 have l1:=h1.lenF a1B (by decide);have l2:=h2.lenF a1B (by decide);have m1:=h1.mx;have m2:=h2.mx;have k1:=h1.le;have k2:=h2.le;refine CT.body Tryz.call58 Tryz.func58 rfl Tryz.ntmps58 Lb rfl ?_;refine kQ1 [0,1] ?_;refine kQ5 [0,1,10] ?_;refine wc (fun c10=>?_) fun c10=>?_
 replace c10:=a1i c10;refine kQ1 [4] ?_;refine wT h ?_;exact⟨by rw[P3 _ _ _ (by omega)],rfl⟩;replace c10:=a0U c10;refine kQ0 [0,1] ?_;refine kQ1 [0,1,5] ?_;refine B0 [0,1] rfl (fun μ F' h'=>∃ k:Nat,(k<=n1/\eqL J7 xs ys=eqL J7 (xs.drop k) (ys.drop k))/\n1 - k=μ/\F'=[(5,.int .i64 k)]/\h=h') (n1 - 0) [(5,.int .i64 0)] (h0:=h) ?_ Sb ⟨0,⟨by omega,by simp⟩,rfl,rfl,rfl⟩ ?_;exact Su;rintro _ _ _ ⟨k,⟨hk,hJ⟩,rfl,rfl,rfl⟩;refine B1 rfl ?_;refine kQ4 [0,1,5,14] ?_;refine wc (fun c14=>?_) fun c14=>?_
 replace c14:=dT c14;obtain⟨x,hx⟩:=A5 (l:=xs) (k:=k) (by omega);obtain⟨y,hy⟩:=A5 (l:=ys) (k:=k) (by omega);rw[N9 _ hx hy] at hJ;have hxm:=List.mem_of_getElem? hx;have hxo:=o1 x hxm;have hyo:=o2 y (List.mem_of_getElem? hy);refine kQ0 [0,1,5] ?_;refine dS [] (.op 0 (.op 1 (.op 2 (.op 3 (.op 4 (.op 5 (.op 6 (.op 7 .nil)))))))) [8,9] D6 ?_;refine kA8 ?_;refine SR.nil rfl rfl ?_;refine xf (E2 Et Et) (ih x hxm y _ _ (hxo.mono Sb) (hyo.mono Sb)) ?_;refine kQ1 [0,1,5,26] ?_;refine wc (fun c26=>?_) fun c26=>?_
 have d26:J7 x y=false:=by simpa using c26
 rw[d26] at hJ;refine kQ1 [4] ?_;refine wT h ?_;exact⟨by rw[hJ];rfl,rfl⟩;have d26:J7 x y=true:=by simpa using c26
 rw[d26,Bool.true_and] at hJ;refine kQ0 [0,1,5] ?_;refine kA3 ?_;refine WL.nil (A4 (n1 - (k+1)) [(5,.int .i64 (k+1))] (h'':=h) (by omega) ?_ Su Sb ⟨k+1,⟨by omega,hJ⟩,rfl,rfl,rfl⟩);exact Su;replace c14:=dF c14;refine kQ0 [] ?_;refine kQ1 [4] ?_;refine wT h ?_;exact⟨by rw[hJ,List.drop_eq_nil_of_le (by omega),List.drop_eq_nil_of_le (by omega)];rfl,rfl⟩
theorem b6I (x y:Int):eqI x y=true↔x=y:=by simp[eqI]
theorem b8j (xs ys:List Int):eqL eqI xs ys=(xs==ys):=by
 rw[Bool.eq_iff_iff,a9n b6I];simp
theorem b5Z {m:View} {h:List Res} {v:Vr} (q:VOk m h v):Rd m h v.a v.n v.c 1 (fl L7 v.items):=q.rd
theorem a8d (u1 u2:Bool) (s1 s2:Option Addr) (n1 c1 n2 c2:Nat) (xs ys:List Vr) (h:List Res) (m:View) (p1:PrOk m h s1 n1 c1 xs) (p2:PrOk m h s2 n2 c2 ys) :
 CT Tryz.prog 111 [.agg #[.bool u1,.slice s1 n1 c1],.agg #[.bool u2,.slice s2 n2 c2]] h m (A3 h (.bool (a0z u1 xs u2 ys))):=by
 have h1:=p1.rd;have h2:=p2.rd;have l1:=h1.lenF D7 (by decide);have l2:=h2.lenF D7 (by decide);have m1:=h1.mx;have m2:=h2.mx;have k1:=h1.le;have k2:=h2.le;have e0:a0z u1 xs u2 ys=((u1==u2)&&eqL R5 xs ys):=rfl;refine CT.body Tryz.call111 Tryz.func111 rfl Tryz.ntmps111 Lb rfl ?_;refine j0 ?_;refine xX fun b2=>?_
 refine xX fun b3=>?_
 refine kQ1 [2,3] ?_;refine kA4 ?_;refine xG (c09 uu4 Et Et) ?_;refine kQ9 [2,3,19] ?_;refine wc (fun c19=>?_) fun c19=>?_
 have d19:a0z u1 xs u2 ys=false:=by
  rw[e0];rcases Bool.or_eq_true_iff.1 c19 with c | c
  ·have:(u1==u2)=false:=by simpa using c
   rw[this];rfl
  ·rw[P3 R5 xs ys (by simp at c;omega),Bool.and_false]
 refine kQ1 [4] ?_;refine wT h ?_;exact⟨by rw[d19],rfl⟩;have d19:(u1==u2)=true/\n1=n2:=by
  have:=Bool.or_eq_false_iff.1 c19;exact⟨by simpa using this.1,by have:=this.2;simp at this;omega⟩
 rw[d19.1,Bool.true_and] at e0;refine kQ0 [2,3] ?_;refine kQ1 [2,3,5] ?_;refine B0 [2,3] rfl (fun μ F' h'=>∃ k:Nat,(k<=n1/\a0z u1 xs u2 ys=eqL R5 (xs.drop k) (ys.drop k))/\n1 - k=μ/\F'=[(5,.int .i64 k)]/\.pt b3 (.cells [.bool u2,.slice s2 n2 c2].toArray 41 (0,0))::.pt b2 (.cells [.bool u1,.slice s1 n1 c1].toArray 41 (0,0))::h=h') (n1 - 0) [(5,.int .i64 0)] (h0:=.pt b3 (.cells [.bool u2,.slice s2 n2 c2].toArray 41 (0,0))::.pt b2 (.cells [.bool u1,.slice s1 n1 c1].toArray 41 (0,0))::h) ?_ Sb ⟨0,⟨by omega,by rw[e0];simp⟩,rfl,rfl,rfl⟩ ?_;exact Su;rintro _ _ _ ⟨k,⟨hk,hJ⟩,rfl,rfl,rfl⟩;refine B1 rfl ?_;refine kQ5 [2,3,5,24] ?_;refine wc (fun c24=>?_) fun c24=>?_
 replace c24:=dT c24;obtain⟨x,hx⟩:=A5 (l:=xs) (k:=k) (by omega);obtain⟨y,hy⟩:=A5 (l:=ys) (k:=k) (by omega);rw[N9 _ hx hy] at hJ;have hxo:=b5Z (p1.ok x (List.mem_of_getElem? hx));have hyo:=b5Z (p2.ok y (List.mem_of_getElem? hy));have hi:=b8j x.items y.items;refine kQ0 [2,3,5] ?_;refine dS [] (.op 0 (.op 1 (.op 2 (.op 3 (.op 4 (.op 5 (.op 6 (.op 7 (.op 8 (.op 9 (.op 10 (.op 11 (.op 12 (.op 13 (.op 14 (.op 15 (.op 16 (.op 17 (.op 18 (.op 19 (.op 20 (.op 21 (.op 22 (.op 23 (.op 24 (.op 25 .nil)))))))))))))))))))))))))) [26,27,28] D6 ?_;refine a6M ?_;refine yG rfl (P2 Et Et) ?_;refine kA1 ?_;refine B6 rfl rfl (GU.f rfl rfl) (fun hc=>PO.fieldAddr b6Z rfl (Nat.ne_of_beq_eq_false rfl) Et) Lb ?_;refine B6 rfl rfl (GU.f rfl rfl) (fun hc=>D0 c1n rfl (Eg hc) Me rfl) Lb ?_;refine B6 rfl rfl (GU.f rfl rfl) (fun hc=>PO.move Et) Lb ?_
 refine B6 rfl rfl (GU.f rfl rfl) (fun hc=>G1 a1Q.und a1Q.size a1Q.posz (Eg hc) (Eg hc) (h1.mono Vl Sb) rfl (by omega)) Lb ?_;refine B6 rfl rfl (GU.f rfl rfl) (fun hc=>H4 b1N rfl (Nat.ne_of_beq_eq_false rfl) D7 (Nat.succ_pos _) (h1.mono Vl Sb) (by assumption) (Eg hc)) Lb ?_;refine B6 rfl rfl (GU.f rfl rfl) (fun hc=>H5 b3A rfl D7 (h1.mono Vl Sb) (Eg hc) (by assumption) rfl) Lb ?_;refine B6 rfl rfl (GU.f rfl rfl) (fun hc=>PO.fieldAddr b6Z rfl (Nat.ne_of_beq_eq_false rfl) Et) Lb ?_;refine B6 rfl rfl (GU.f rfl rfl) (fun hc=>D0 c1n rfl (Eg hc) Me rfl) Lb ?_;refine B6 rfl rfl (GU.f rfl rfl) (fun hc=>PO.move Et) Lb ?_;refine B6 rfl rfl (GU.f rfl rfl) (fun hc=>G1 a1Q.und a1Q.size a1Q.posz (Eg hc) (Eg hc) (h2.mono Vl Sb) rfl (by omega)) Lb ?_;refine B6 rfl rfl (GU.f rfl rfl) (fun hc=>H4 b1N rfl (Nat.ne_of_beq_eq_false rfl) D7 (Nat.succ_pos _) (h2.mono Vl Sb) (by assumption) (Eg hc)) Lb ?_
 refine B6 rfl rfl (GU.f rfl rfl) (fun hc=>H5 b3A rfl D7 (h2.mono Vl Sb) (Eg hc) (by assumption) rfl) Lb ?_;refine SR.nil rfl rfl ?_;refine A7 (GU.f rfl rfl) (fun hc=>⟨Ef,(E2 (Eg hc) (Eg hc)),a5Q _ _ _ _ _ _ x.items y.items _ _ (hxo.mono Vl Sb) (hyo.mono Vl Sb)⟩) Lb ?_;refine kQ2 [2,3,5,55] ?_;refine wc (fun c55=>?_) fun c55=>?_
 replace c55:((!(x.tag==y.tag))||!(eqL eqI x.items y.items))=true:=c55;have d55:R5 x y=false:=by
  unfold R5;rw[<- hi];cases hq:(x.tag==y.tag) <;> cases hr:eqL eqI x.items y.items <;> simp_all
 rw[d55] at hJ;refine kQ1 [4] ?_;refine wT h ?_;exact⟨by rw[hJ];rfl,rfl⟩;replace c55:((!(x.tag==y.tag))||!(eqL eqI x.items y.items))=false:=c55;have d55:R5 x y=true:=by
  unfold R5;rw[<- hi];cases hq:(x.tag==y.tag) <;> cases hr:eqL eqI x.items y.items <;> simp_all
 rw[d55,Bool.true_and] at hJ;refine kQ0 [2,3,5] ?_;refine kA3 ?_;refine WL.nil (A4 (n1 - (k+1)) [(5,.int .i64 (k+1))] (h'':=.pt b3 (.cells [.bool u2,.slice s2 n2 c2].toArray 41 (0,0))::.pt b2 (.cells [.bool u1,.slice s1 n1 c1].toArray 41 (0,0))::h) (by omega) ?_ Su Sb ⟨k+1,⟨by omega,hJ⟩,rfl,rfl,rfl⟩);exact Su;replace c24:=dF c24;refine kQ0 [] ?_;refine kQ1 [4] ?_;refine wT h ?_;exact⟨by rw[hJ,List.drop_eq_nil_of_le (by omega),List.drop_eq_nil_of_le (by omega)];rfl,rfl⟩
theorem a8k (x:Gu) (ih:∀ z ∈ x.bl,∀ (y:Pr) (h:List Res) (m:View),POk m h z->POk m h y->CT Tryz.prog 34 [prV z,prV y] h m (A3 h (.bool (J7 z y)))) (y:Gu) (h:List Res) (m:View) (hx:GK m h x) (hy:GK m h y) :
 CT Tryz.prog 109 [guV x,guV y] h m (A3 h (.bool (X4 x y))):=by
 have v0:=View.le.refl m;refine CT.body Tryz.call109 Tryz.func109 rfl Tryz.ntmps109 Lb rfl ?_;refine j0 ?_;refine xX fun b2=>?_
 refine xX fun b3=>?_
 refine kQ1 [2,3] ?_;refine a9N ?_;refine zG (fun hc=>M6 (Eg hc) (Eg hc)) ?_;refine kA6 ?_;refine A7 (GU.t rfl rfl) (fun hc=>⟨Ef,(E2 (Eg hc) (Eg hc)),a0i x.cond y.cond _ _ (hx.o.cond.t.mono Sb) (hy.o.cond.t.mono Sb)⟩) Lb ?_;refine kA6 ?_;refine A7 (GU.t rfl rfl) (fun hc=>⟨Ef,(E2 (Eg hc) (Eg hc)),a0i x.ch y.ch _ _ (hx.o.ch.t.mono Sb) (hy.o.ch.t.mono Sb)⟩) Lb ?_;refine kA6 ?_;refine A7 (GU.t rfl rfl) (fun hc=>⟨Ef,(E2 (Eg hc) (Eg hc)),a0i x.time y.time _ _ (hx.o.time.t.mono Sb) (hy.o.time.t.mono Sb)⟩) Lb ?_;refine kA6 ?_;refine A7 (GU.t rfl rfl) (fun hc=>⟨Ef,(E2 (Eg hc) (Eg hc)),a1C x.tg.l y.tg.l _ _ _ _ _ _ _ _ (hx.o.tg.rd.mono v0 Sb) (hy.o.tg.rd.mono v0 Sb) (fun z hz=>(hx.o.tg.ok z hz).t.mono Sb) (fun z hz=>(hy.o.tg.ok z hz).t.mono Sb)⟩) Lb ?_;refine kA6 ?_
 refine A7 (GU.t rfl rfl) (fun hc=>⟨Ef,(E2 (Eg hc) (Eg hc)),a1C x.vl.l y.vl.l _ _ _ _ _ _ _ _ (hx.o.vl.rd.mono v0 Sb) (hy.o.vl.rd.mono v0 Sb) (fun z hz=>(hx.o.vl.ok z hz).t.mono Sb) (fun z hz=>(hy.o.vl.ok z hz).t.mono Sb)⟩) Lb ?_;refine kA6 ?_;refine A7 (GU.t rfl rfl) (fun hc=>⟨Ef,(E2 (Eg hc) (Eg hc)),a3q x.bl ih y.bl _ _ _ _ _ _ _ _ (hx.o.b.mono v0 Sb) (hy.o.b.mono v0 Sb) (fun z hz=>(hx.b z hz).mono Sb) (fun z hz=>(hy.b z hz).mono Sb)⟩) Lb ?_;refine kQ2 [4] ?_;refine wT h ?_;exact⟨by rw[a7F],rfl⟩
theorem a7c (xs:List Gu) (ih:∀ x ∈ xs,∀ z ∈ x.bl,∀ (y:Pr) (h:List Res) (m:View),POk m h z->POk m h y->CT Tryz.prog 34 [prV z,prV y] h m (A3 h (.bool (J7 z y)))) (ys:List Gu) (s1 s2:Option Addr) (n1 c1 n2 c2:Nat) (h:List Res) (m:View) (h1:Rd m h s1 n1 c1 23 (fl guE xs)) (h2:Rd m h s2 n2 c2 23 (fl guE ys)) (o1:∀ x ∈ xs,GK m h x) (o2:∀ x ∈ ys,GK m h x) :
 CT Tryz.prog 57 [.slice s1 n1 c1,.slice s2 n2 c2] h m (A3 h (.bool (eqL X4 xs ys))):=by
 have l1:=h1.lenF a5e (by decide);have l2:=h2.lenF a5e (by decide);have m1:=h1.mx;have m2:=h2.mx;have k1:=h1.le;have k2:=h2.le;refine CT.body Tryz.call57 Tryz.func57 rfl Tryz.ntmps57 Lb rfl ?_;refine kQ1 [0,1] ?_;refine kQ5 [0,1,10] ?_;refine wc (fun c10=>?_) fun c10=>?_
 replace c10:=a1i c10;refine kQ1 [4] ?_;refine wT h ?_;exact⟨by rw[P3 _ _ _ (by omega)],rfl⟩;replace c10:=a0U c10;refine kQ0 [0,1] ?_;refine kQ1 [0,1,5] ?_;refine B0 [0,1] rfl (fun μ F' h'=>∃ k:Nat,(k<=n1/\eqL X4 xs ys=eqL X4 (xs.drop k) (ys.drop k))/\n1 - k=μ/\F'=[(5,.int .i64 k)]/\h=h') (n1 - 0) [(5,.int .i64 0)] (h0:=h) ?_ Sb ⟨0,⟨by omega,by simp⟩,rfl,rfl,rfl⟩ ?_;exact Su;rintro _ _ _ ⟨k,⟨hk,hJ⟩,rfl,rfl,rfl⟩;refine B1 rfl ?_;refine kQ4 [0,1,5,14] ?_;refine wc (fun c14=>?_) fun c14=>?_
 replace c14:=dT c14;obtain⟨x,hx⟩:=A5 (l:=xs) (k:=k) (by omega);obtain⟨y,hy⟩:=A5 (l:=ys) (k:=k) (by omega);rw[N9 _ hx hy] at hJ;have hxm:=List.mem_of_getElem? hx;have hxo:=o1 x hxm;have hyo:=o2 y (List.mem_of_getElem? hy);refine kQ0 [0,1,5] ?_;refine dS [] (.op 0 (.op 1 (.op 2 (.op 3 (.op 4 (.op 5 (.op 6 (.op 7 .nil)))))))) [8,9] D6 ?_;refine kA8 ?_;refine SR.nil rfl rfl ?_;refine xf (E2 Et Et) (a8k x (ih x hxm) y _ _ (hxo.mono Sb) (hyo.mono Sb)) ?_;refine kQ1 [0,1,5,26] ?_;refine wc (fun c26=>?_) fun c26=>?_
 have d26:X4 x y=false:=by simpa using c26
 rw[d26] at hJ;refine kQ1 [4] ?_;refine wT h ?_;exact⟨by rw[hJ];rfl,rfl⟩;have d26:X4 x y=true:=by simpa using c26
 rw[d26,Bool.true_and] at hJ;refine kQ0 [0,1,5] ?_;refine kA3 ?_;refine WL.nil (A4 (n1 - (k+1)) [(5,.int .i64 (k+1))] (h'':=h) (by omega) ?_ Su Sb ⟨k+1,⟨by omega,hJ⟩,rfl,rfl,rfl⟩);exact Su;replace c14:=dF c14;refine kQ0 [] ?_;refine kQ1 [4] ?_;refine wT h ?_;exact⟨by rw[hJ,List.drop_eq_nil_of_le (by omega),List.drop_eq_nil_of_le (by omega)];rfl,rfl⟩
structure SK (m:View) (h:List Res) (s:Sp):Prop where
 o:SOk m h s
 b:∀ x ∈ s.bl,POk m h x
theorem SK.mono {m:View} {h h':List Res} {s:Sp} (q:SK m h s) (r:h.Sublist h'):SK m h' s:=⟨q.o.mono r,fun x hx=>(q.b x hx).mono r⟩
theorem b6y {x y:Fo} (h:(!(a1p x y))=true):a1p x y=false:=by simpa using h
theorem b6w {x y:Fo} (h:(!(a1p x y))=false):a1p x y=true:=by simpa using h
set_option maxHeartbeats 1000000 in
theorem a9x (x:Sp) (ih:∀ z ∈ x.bl,∀ (y:Pr) (h:List Res) (m:View),POk m h z->POk m h y->CT Tryz.prog 34 [prV z,prV y] h m (A3 h (.bool (J7 z y)))) (y:Sp) (h:List Res) (m:View) (hx:SK m h x) (hy:SK m h y) :
 CT Tryz.prog 59 [spV x,spV y] h m (A3 h (.bool (a2a x y))):=by
 have v0:=View.le.refl m;have f1:=hx.o.fr;have f2:=hy.o.fr;have m1:=f1.mx;have m2:=f2.mx;have k1:=f1.le;have k2:=f2.le;refine CT.body Tryz.call59 Tryz.func59 rfl Tryz.ntmps59 Lb rfl ?_;refine j0 ?_;refine xX fun b2=>?_
 refine xX fun b3=>?_
 refine kQ1 [2,3] ?_;refine a9N ?_;refine F6 (GU.f rfl rfl) (fun hc=>a9r a9m (by kernel_rfl) (by kernel_rfl) (Eg hc) (Eg hc) rfl) Lb ?_;refine b8T [2,3,26] ?_;refine wc (fun c26=>?_) fun c26=>?_
 have d26:a2a x y=false:=b5x c26;refine kQ1 [4] ?_;refine wT h ?_;exact⟨by rw[d26],rfl⟩;have d26:=b2h (x:=x) (y:=y) c26;obtain⟨hlen,e0⟩:=d26;refine kQ0 [2,3] ?_;refine kQ1 [2,3,5] ?_;refine B0 [2,3] rfl (fun μ F' h'=>∃ k:Nat,(k<=x.fs.l.length/\eqL a1p x.fs.l y.fs.l=eqL a1p (x.fs.l.drop k) (y.fs.l.drop k))/\x.fs.l.length - k=μ/\F'=[(5,.int .i64 k)]/\.pt b3 (.cells (spE y).toArray 44 (0,0))::.pt b2 (.cells (spE x).toArray 44 (0,0))::h=h') (x.fs.l.length - 0) [(5,.int .i64 0)] (h0:=.pt b3 (.cells (spE y).toArray 44 (0,0))::.pt b2 (.cells (spE x).toArray 44 (0,0))::h) ?_ Sb ⟨0,⟨by omega,by simp⟩,rfl,rfl,rfl⟩ ?_;exact Su;rintro _ _ _ ⟨k,⟨hk,hJ⟩,rfl,rfl,rfl⟩;refine B1 rfl ?_;refine kQ5 [2,3,5,31] ?_;refine wc (fun c31=>?_) fun c31=>?_
 replace c31:=dT c31;obtain⟨u,hu⟩:=A5 (l:=x.fs.l) (k:=k) (by omega);obtain⟨v,hv⟩:=A5 (l:=y.fs.l) (k:=k) (by omega);rw[N9 _ hu hv] at hJ;refine kQ0 [2,3,5] ?_;refine dS [] (.op 0 (.op 1 (.op 2 (.op 3 (.op 4 (.op 5 (.op 6 (.op 7 (.op 8 (.op 9 .nil)))))))))) [10] D6 ?_;refine a9N ?_;refine SR.nil rfl rfl ?_;refine xG (b1o (o:=37) b3j (by kernel_rfl) (by kernel_rfl) Et Et (by kernel_rfl) rfl) ?_;refine kQ0 [2,3,5,44] ?_;refine wc (fun c44=>?_) fun c44=>?_
 rw[b6y (x:=u) (y:=v) c44] at hJ;refine kQ1 [4] ?_;refine wT h ?_;exact⟨by rw[e0,hJ];rfl,rfl⟩;rw[b6w (x:=u) (y:=v) c44,Bool.true_and] at hJ;refine kQ0 [2,3,5] ?_;refine kA3 ?_;refine WL.nil (A4 (x.fs.l.length - (k+1)) [(5,.int .i64 (k+1))] (h'':=.pt b3 (.cells (spE y).toArray 44 (0,0))::.pt b2 (.cells (spE x).toArray 44 (0,0))::h) (by omega) ?_ Su Sb ⟨k+1,⟨by omega,hJ⟩,rfl,rfl,rfl⟩);exact Su;replace c31:=dF c31;rw[List.drop_eq_nil_of_le (by omega),List.drop_eq_nil_of_le (by omega)] at hJ;refine kQ0 [2,3] ?_;refine kA4 ?_;refine xf (E2 Et Et) (b0f _ _ _ _ _ _ x.names.l y.names.l _ _ (hx.o.nr.mono v0 Sb) (hy.o.nr.mono v0 Sb)) ?_;refine kA5 ?_;refine A7 (GU.t rfl rfl) (fun hc=>⟨Ef,(E2 (Eg hc) (Eg hc)),a0i x.e y.e _ _ (hx.o.e.t.mono Sb) (hy.o.e.t.mono Sb)⟩) Lb ?_;refine kA6 ?_
 refine A7 (GU.t rfl rfl) (fun hc=>⟨Ef,(E2 (Eg hc) (Eg hc)),a8d x.cs y.cs _ _ _ _ _ _ x.vs.l y.vs.l _ _ (hx.o.v.mono v0 Sb) (hy.o.v.mono v0 Sb)⟩) Lb ?_;refine kA6 ?_;refine A7 (GU.t rfl rfl) (fun hc=>⟨Ef,(E2 (Eg hc) (Eg hc)),a3q x.bl ih y.bl _ _ _ _ _ _ _ _ (hx.o.b.mono v0 Sb) (hy.o.b.mono v0 Sb) (fun z hz=>(hx.b z hz).mono Sb) (fun z hz=>(hy.b z hz).mono Sb)⟩) Lb ?_;refine kQ2 [4] ?_;refine wT h ?_;exact⟨by rw[e0,hJ];rfl,rfl⟩
theorem c1f {m:View} {h:List Res} {p:Pr} (q:POk m h p):∀ g ∈ p.gl,GK m h g:=fun g hg=>⟨q.own.gs g hg,fun _ hx=>q.sub (.g hg hx)⟩
theorem c0U {m:View} {h:List Res} {p:Pr} (q:POk m h p):SK m h p.sp:=⟨q.own.sp,fun _ hx=>q.sub (.s hx)⟩
set_option maxHeartbeats 2000000 in
theorem b7N (p:Pr):∀ (q:Pr) (h:List Res) (m:View),POk m h p->POk m h q->CT Tryz.prog 34 [prV p,prV q] h m (A3 h (.bool (J7 p q))):=by
 refine Pr.ind (q:=fun p=>∀ (q:Pr) (h:List Res) (m:View),POk m h p->POk m h q->CT Tryz.prog 34 [prV p,prV q] h m (A3 h (.bool (J7 p q)))) (fun p ih q h m hp hq=>?_) p;have v0:=View.le.refl m;have e0:=a7q p q;have x1:=hp.own;have y1:=hq.own;have f1:=x1.pn;have f2:=y1.pn;have m1:=f1.mx;have m2:=f2.mx;have k1:=f1.le;have k2:=f2.le;refine CT.body Tryz.call34 Tryz.func34 rfl Tryz.ntmps34 Lb rfl ?_;refine j0 ?_;refine xX fun b2=>?_
 refine xX fun b3=>?_
 refine kQ1 [2,3] ?_;refine kQ7 [2,3,13] ?_;refine wc (fun c13=>?_) fun c13=>?_
 replace c13:=a1i c13;rw[P3 _ p.pn.l q.pn.l (by omega),Bool.false_and] at e0;refine kQ1 [4] ?_;refine wT h ?_;exact⟨by rw[e0],rfl⟩;replace c13:=a0U c13;refine kQ0 [2,3] ?_;refine kQ1 [2,3,5] ?_;refine B0 [2,3] rfl (fun μ F' h'=>∃ k:Nat,(k<=p.pn.l.length/\eqL (fun a b:Int=>a==b) p.pn.l q.pn.l=eqL (fun a b:Int=>a==b) (p.pn.l.drop k) (q.pn.l.drop k))/\p.pn.l.length - k=μ/\F'=[(5,.int .i64 k)]/\.pt b3 (.cells (prE q).toArray 46 (0,0))::.pt b2 (.cells (prE p).toArray 46 (0,0))::h=h') (p.pn.l.length - 0) [(5,.int .i64 0)] (h0:=.pt b3 (.cells (prE q).toArray 46 (0,0))::.pt b2 (.cells (prE p).toArray 46 (0,0))::h) ?_ Sb ⟨0,⟨by omega,by simp⟩,rfl,rfl,rfl⟩ ?_;exact Su;rintro _ _ _ ⟨k,⟨hk,hJ⟩,rfl,rfl,rfl⟩;refine B1 rfl ?_;refine kQ5 [2,3,5,18] ?_;refine wc (fun c18=>?_) fun c18=>?_
 replace c18:=dT c18;obtain⟨u,hu⟩:=A5 (l:=p.pn.l) (k:=k) (by omega);obtain⟨v,hv⟩:=A5 (l:=q.pn.l) (k:=k) (by omega);rw[N9 _ hu hv] at hJ;refine kQ0 [2,3,5] ?_;refine dS [] (.op 0 (.op 1 (.op 2 (.op 3 (.op 4 (.op 5 (.op 6 (.op 7 (.op 8 (.op 9 .nil)))))))))) [10] D6 ?_;refine a9N ?_;refine SR.nil rfl rfl ?_;refine kQ1 [2,3,5,31] ?_;refine wc (fun c31=>?_) fun c31=>?_
 replace c31:=a1i c31;rw[show(u==v)=false by simpa using c31] at hJ;refine kQ1 [4] ?_;refine wT h ?_;exact⟨by rw[e0,hJ];rfl,rfl⟩;replace c31:=a0U c31;rw[show(u==v)=true by simpa using c31,Bool.true_and] at hJ;refine kQ0 [2,3,5] ?_;refine kA3 ?_;refine WL.nil (A4 (p.pn.l.length - (k+1)) [(5,.int .i64 (k+1))] (h'':=.pt b3 (.cells (prE q).toArray 46 (0,0))::.pt b2 (.cells (prE p).toArray 46 (0,0))::h) (by omega) ?_ Su Sb ⟨k+1,⟨by omega,hJ⟩,rfl,rfl,rfl⟩);exact Su;replace c18:=dF c18;rw[List.drop_eq_nil_of_le (by omega),List.drop_eq_nil_of_le (by omega)] at hJ;refine kQ0 [2,3] ?_;refine kA6 ?_;refine xG (M6 Et Et) ?_;refine kA7 ?_;refine A7 (GU.t rfl rfl) (fun hc=>⟨Ef,(E2 (Eg hc) (Eg hc)),a0i p.rep.base q.rep.base _ _ (x1.rb.t.mono Sb) (y1.rb.t.mono Sb)⟩) Lb ?_;refine kA8 ?_
 refine A7 (GU.t rfl rfl) (fun hc=>⟨Ef,(E2 (Eg hc) (Eg hc)),a0i p.rep.count q.rep.count _ _ (x1.rc.t.mono Sb) (y1.rc.t.mono Sb)⟩) Lb ?_;refine kQ2 [2,3,6] ?_;refine a9N ?_;refine zG (fun hc=>M6 (Eg hc) (Eg hc)) ?_;refine kA9 ?_;refine A7 (GU.t rfl rfl) (fun hc=>⟨Ef,(E2 (Eg hc) (Eg hc)),a0i p.ch q.ch _ _ (x1.ch.t.mono Sb) (y1.ch.t.mono Sb)⟩) Lb ?_;refine kA6 ?_;refine A7 (GU.t rfl rfl) (fun hc=>⟨Ef,(E2 (Eg hc) (Eg hc)),a1C p.tg.l q.tg.l _ _ _ _ _ _ _ _ (x1.tg.rd.mono v0 Sb) (y1.tg.rd.mono v0 Sb) (fun z hz=>(x1.tg.ok z hz).t.mono Sb) (fun z hz=>(y1.tg.ok z hz).t.mono Sb)⟩) Lb ?_;refine kA6 ?_;refine A7 (GU.t rfl rfl) (fun hc=>⟨Ef,(E2 (Eg hc) (Eg hc)),a1C p.ex.l q.ex.l _ _ _ _ _ _ _ _ (x1.ex.rd.mono v0 Sb) (y1.ex.rd.mono v0 Sb) (fun z hz=>(x1.ex.ok z hz).t.mono Sb) (fun z hz=>(y1.ex.ok z hz).t.mono Sb)⟩) Lb ?_;refine kA6 ?_
 refine A7 (GU.t rfl rfl) (fun hc=>⟨Ef,(E2 (Eg hc) (Eg hc)),a7c p.gl (fun g hg z hz=>ih z (.g hg hz)) q.gl _ _ _ _ _ _ _ _ (x1.g.mono v0 Sb) (y1.g.mono v0 Sb) (fun z hz=>(c1f hp z hz).mono Sb) (fun z hz=>(c1f hq z hz).mono Sb)⟩) Lb ?_;refine kA6 ?_;refine A7 (GU.t rfl rfl) (fun hc=>⟨Ef,(E2 (Eg hc) (Eg hc)),a3q p.ll (fun z hz=>ih z (.l hz)) q.ll _ _ _ _ _ _ _ _ (x1.l.mono v0 Sb) (y1.l.mono v0 Sb) (fun z hz=>(hp.sub (.l hz)).mono Sb) (fun z hz=>(hq.sub (.l hz)).mono Sb)⟩) Lb ?_;refine kA6 ?_;refine A7 (GU.t rfl rfl) (fun hc=>⟨Ef,(E2 (Eg hc) (Eg hc)),a9x p.sp (fun z hz=>ih z (.s hz)) q.sp _ _ ((c0U hp).mono Sb) ((c0U hq).mono Sb)⟩) Lb ?_;refine kQ2 [4] ?_;refine wT h ?_;exact⟨by rw[e0,hJ];rfl,rfl⟩
end
section
open Go.Eng Go.Pc Go.Sx Go
open Go.Xp hiding B D5
open Go.Ty (Ty Vr Tok eqT tyV I4 B2 B4 R1 zeroK L7 D3 encV D7 VOk PrOk)
open Go.Lx (encB C4 textO)
open Go.Ly (Rw O6 G8 eqR a9A a9y a9Z)
theorem b5i {m m':View} (g:Glob m) (h:m.le m'):Glob m':=
 ⟨by obtain⟨x,hx⟩:=g.max;exact⟨x,h.cell hx⟩,fun j v e=>h.cell (g.prim j v e),fun j v e=>h.cell (g.sOne j v e),fun j v e=>h.cell (g.sSome j v e),fun j v e=>h.cell (g.sAll j v e)⟩
section
variable {m m':View} {h h':List Res}
theorem c2e (V:Vw m' h' m h) {e:Ex} (q:TOk m' h' e):TOk m h e:=by
 induction q with
 | mk hr _ ih=>exact .mk (V _ _ _ _ _ hr) ih
theorem a2V (V:Vw m' h' m h) {e:Ex} (q:EOk m' h' e):EOk m h e:=⟨c2e V q.t,q.w⟩
theorem b00 (V:Vw m' h' m h) {s:Sli Ex} (q:LOk m' h' s):LOk m h s:=⟨V _ _ _ _ _ q.rd,fun x hx=>a2V V (q.ok x hx)⟩
theorem c2w (V:Vw m' h' m h) {a:Option Addr} {k c:Nat} {l:List Vr} (q:PrOk m' h' a k c l):PrOk m h a k c l:=⟨V _ _ _ _ _ q.rd,fun v hv=>⟨V _ _ _ _ _ (q.ok v hv).rd⟩,q.tag⟩
theorem c2J (V:Vw m' h' m h) {s:Sp} (q:SOk m' h' s):SOk m h s:=⟨q.k,q.ty,V _ _ _ _ _ q.nr,q.nw,a2V V q.e,c2w V q.v,q.vw,V _ _ _ _ _ q.fr,q.fw,V _ _ _ _ _ q.b⟩
theorem c2m (V:Vw m' h' m h) {g:Gu} (q:GOk m' h' g):GOk m h g:=⟨q.k,q.n,a2V V q.cond,a2V V q.ch,b00 V q.tg,b00 V q.vl,a2V V q.time,V _ _ _ _ _ q.b⟩
theorem c3p (V:Vw m' h' m h) {p:Pr} (q:P1 m' h' p):P1 m h p:=⟨q.k,q.n,a2V V q.ch,b00 V q.tg,b00 V q.ex,q.rn,a2V V q.rb,a2V V q.rc,V _ _ _ _ _ q.g,fun x hx=>c2m V (q.gs x hx),V _ _ _ _ _ q.l,V _ _ _ _ _ q.pn,q.pw,c2J V q.sp⟩
theorem c1k (V:Vw m' h' m h) {p:Pr} (q:POk m' h' p):POk m h p:=by
 induction q with
 | mk o _ ih=>exact .mk (c3p V o) ih
end
theorem b4H {m:View} (hg:Glob m) (ra:Option Addr) (rc:Nat) (R:List Rw) (h:List Res) (ht:∀ x ∈ R,x.text.length<=140737488355328) :
 CT Tryz.prog 5 [.slice ra R.length rc] (.row (.slice ra R.length rc) 53 3 R.length (fl O6 R)::h) m (fun v _ h'=>∃ x hx bl,v=.tuple #[prV x,.int .i64 ((N0 R).2.1:Nat),.int .i64 (N0 R).2.2]/\stP x=(N0 R).1/\POk m (hx++(bl++h)) x/\Rd m hx ra R.length rc 3 (fl O6 R)/\h'=hx++(bl++h)):=
 (CT.lendRow Tryz.call5 fun m' hle hr=>b0n (b5i hg hle) ra rc R h hr ht).mono (by
  rintro v m2 h2 - ⟨m',hx,h3,⟨x,bl,h1,h4,h5,rfl⟩,rfl,V,hr⟩;exact⟨x,hx,bl,h1,h4,c1k V (h5.mono (List.sublist_append_left _ _)),hr,rfl⟩)
theorem a5r {m:View} (hg:Glob m) (ra:Option Addr) (rc:Nat) (R:List Rw) (h:List Res) (ht:∀ x ∈ R,x.text.length<=140737488355328) :
 CT Tryz.prog 5 [.slice ra R.length rc] (.row (.slice ra R.length rc) 53 3 R.length (fl O6 R)::h) m (fun v _ h'=>∃ x hh,v=.tuple #[prV x,.int .i64 ((N0 R).2.1:Nat),.int .i64 (N0 R).2.2]/\stP x=(N0 R).1/\POk m (hh++h) x/\h'=hh++h):=
 (b4H hg ra rc R h ht).mono (by
  rintro v m2 h2 - ⟨x,hx,bl,h1,h4,h5,-,rfl⟩;exact⟨x,hx++bl,h1,h4,by rw[List.append_assoc];exact h5,by rw[List.append_assoc]⟩)
theorem b5p (s:B):(Lib.splitB ⟨#[47]⟩ 0 (Lib.countB ⟨s.toArray⟩ ⟨#[47]⟩) ⟨s.toArray⟩).map (·.data.toList)=L1 s:=by
 rw[Lib.splitB_data];rfl
theorem b1Q {m:View} (hg:Glob m) (s:B) (hs:s.length < 4294967281) (h:List Res):CT Tryz.prog 38 [str s,str [47]] h m
 (fun v _ h'=>∃ b,v=.slice (some ⟨b,0,none⟩) (L1 s).length (L1 s).length/\h'=.pt b (.cells (fl encB (L1 s)).toArray 9 (0,0))::h):=by
 obtain⟨x,hx⟩:=hg.max;refine⟨Tryz.call38,fun w st=>Calls.mono (Tryz.strings_Split ⟨s.toArray⟩ ⟨#[47]⟩ x w hs (st.cell hx) (by decide)) ?_⟩;rintro e w' ⟨rfl,rfl⟩;have h1:=b5p s;have h2:Lib.countB ⟨s.toArray⟩ ⟨#[47]⟩+1=(L1 s).length:=by
  rw[<- h1,List.length_map,Lib.splitB_all ⟨#[47]⟩ (by decide) 0 _ ⟨s.toArray⟩ rfl]
 have h3:(Lib.splitB ⟨#[47]⟩ 0 (Lib.countB ⟨s.toArray⟩ ⟨#[47]⟩) ⟨s.toArray⟩).map Value.string=fl encB (L1 s):=by
  rw[<- h1];generalize Lib.splitB ⟨#[47]⟩ 0 (Lib.countB ⟨s.toArray⟩ ⟨#[47]⟩) ⟨s.toArray⟩=l;induction l with
  | nil=>rfl
  | cons y l ih=>
   rw[List.map_cons,List.map_cons,ih];rfl
 rw[h2,h3];exact⟨_,m,_,rfl,Vl,st.alloc _,w.heap.size,rfl,rfl⟩
theorem b4Y (s:B) (h:List Res) (m:View):CT Tryz.prog 39 [str s,str [46]] h m (A3 h (str (Lib.trimLeftB s 46))):=
 CT.ofCalls Tryz.call39 fun w _=>Tryz.strings_TrimLeft_one ⟨s.toArray⟩ 46 (by decide) w
theorem a6m {m:View} (hg:Glob m) (s:B) (hs:s.length < 4294967281) (hl:(L1 s).length<=1000) (hp:∀ x ∈ L1 s,x.length<=100000) (h:List Res) :
 CT Tryz.prog 20 [str s] h m (fun v _ h'=>b4N O6 53 3 h (S0 s) v h'):=by
 refine CT.body Tryz.call20 Tryz.func20 rfl Tryz.ntmps20 Lb rfl ?_;refine kQ1 [0] ?_;refine WL.addNil 53 3 ?_;refine kQ1 [0,3] ?_;refine kA1 ?_;refine xg (E2 Et Ek) (b1Q hg s hs _) ?_;rintro _ _ ⟨b8,rfl,rfl⟩;refine kQ2 [3,8,9,10] ?_;refine B0 [8,9] rfl (fun μ F' h'=>∃ a3:Option Addr,∃ c3:Nat,∃ j:Nat,∃ r:List Rw,((j<=(L1 s).length/\r.length=j)/\r=a4Y 0 ((L1 s).take j))/\(L1 s).length - j=μ/\F'=[(3,.slice a3 r.length c3),(10,.int .i64 j)]/\.pt b8 (.cells (fl encB (L1 s)).toArray 9 (0,0))::.row (.slice a3 r.length c3) 53 3 r.length (fl O6 r)::h=h') ((L1 s).length - 0) [(3,.slice none ([]).length 0),(10,.int .i64 0)] (h0:=.pt b8 (.cells (fl encB (L1 s)).toArray 9 (0,0))::.row (.slice none ([]).length 0) 53 3 ([]).length (fl O6 ([]))::h) ?_ Sb ⟨none,0,0,[],⟨⟨by omega,rfl⟩,rfl⟩,rfl,rfl,rfl⟩ ?_;exact Su;rintro _ _ _ ⟨a3,c3,j,r,⟨⟨hj,hr⟩,hJ⟩,rfl,rfl,rfl⟩;refine B1 rfl ?_
 refine kQ1 [3,8,9,10,11] ?_;refine wc (fun c11=>?_) fun c11=>?_
 replace c11:=dT c11;obtain⟨x,hx⟩:=A5 (l:=L1 s) (k:=j) (by omega);have hxl:=hp x (List.mem_of_getElem? hx);have htl:(Lib.trimLeftB x 46).length<=x.length:=(List.dropWhile_sublist _).length_le;have htk:a4Y 0 ((L1 s).take (j+1))=a4Y 0 ((L1 s).take j)++[a5d j x]:=by rw[a6O hx,Nat.zero_add]
 have hln:(r++[a5d j x]).length=r.length+1:=List.length_append;have hrd:Rd m (.pt b8 (.cells (fl encB (L1 s)).toArray 9 (0,0))::.row (.slice a3 r.length c3) 53 3 r.length (fl O6 r)::h) (some ⟨b8,0,none⟩) (L1 s).length (L1 s).length 1 (fl encB (L1 s)):=Rd.ofPt (by rw[b1P C4]) (by omega) Me;refine kQ0 [3,8,9,10] ?_;refine kQ5 [3,4,5,8,9,10] ?_;refine kA1 ?_;refine xf (E2 Et Ek) (b4Y x _ _) ?_;refine kQ1 [3,4,5,6,8,9,10] ?_;refine kA4 ?_;refine xG (L2 uu9 Et) ?_;refine kA1 ?_;refine xG (L2 uu9 Et) ?_;refine xG (U0 Et Et (by omega)) ?_;refine kA2 ?_;refine xY a4K Eb fun b27=>?_
 refine xD a4K (Ev.tmp rfl) (Ev.tmp rfl) (show r.length+1=(r++[a5d j x]).length by simp) (E9 (enc:=O6) _ (a5d j x)) fun a28 c28=>?_
 refine kQ1 [3,8,9,10] ?_;refine kA2 ?_;refine WL.nil (A4 ((L1 s).length - (j+1)) [(3,.slice a28 (r++[a5d j x]).length c28),(10,.int .i64 (j+1))] (h'':=.pt b8 (.cells (fl encB (L1 s)).toArray 9 (0,0))::.row (.slice a28 (r++[a5d j x]).length c28) 53 3 (r++[a5d j x]).length (fl O6 (r++[a5d j x]))::h) (by omega) ?_ Su Sb ⟨a28,c28,j+1,r++[a5d j x],⟨⟨by omega,by omega⟩,by rw[htk,hJ]⟩,rfl,rfl,rfl⟩);exact Su;replace c11:=dF c11;rw[List.take_of_length_le (by omega)] at hJ;subst hJ;refine kQ0 [3] ?_;refine kQ2 [2] ?_;refine wT (.row (.slice a3 (S0 s).length c3) 53 3 (S0 s).length (fl O6 (S0 s))::h) ?_;exact⟨_,_,_,rfl,rfl,rfl⟩
theorem b2W (s1 s2:Option Addr) (n1 c1 n2 c2:Nat) (xs ys:List _) (h:List Res) (m:View) (h1:Rd m h s1 n1 c1 3 (fl O6 xs)) (h2:Rd m h s2 n2 c2 3 (fl O6 ys)) :
 CT Tryz.prog 33 [.slice s1 n1 c1,.slice s2 n2 c2] h m (A3 h (.bool (eqL eqR xs ys))):=by
 have l1:=h1.lenF G8 (by decide);have l2:=h2.lenF G8 (by decide);have m1:=h1.mx;have m2:=h2.mx;have k1:=h1.le;have k2:=h2.le;refine CT.body Tryz.call33 Tryz.func33 rfl Tryz.ntmps33 Lb rfl ?_;refine kQ1 [0,1] ?_;refine kQ5 [0,1,10] ?_;refine wc (fun c10=>?_) fun c10=>?_
 replace c10:=a1i c10;refine kQ1 [4] ?_;refine wT h ?_;exact⟨by rw[P3 _ _ _ (by omega)],rfl⟩;replace c10:=a0U c10;refine kQ0 [0,1] ?_;refine kQ3 [0,1,12,13] ?_;refine B0 [0,1,12] rfl (fun μ F' h'=>∃ k:Nat,(k<=n1/\eqL eqR xs ys=eqL eqR (xs.drop k) (ys.drop k))/\n1 - k=μ/\F'=[(13,.int .i64 k)]/\h=h') (n1 - 0) [(13,.int .i64 0)] (h0:=h) ?_ Sb ⟨0,⟨by omega,by simp⟩,rfl,rfl,rfl⟩ ?_;exact Su;rintro _ _ _ ⟨k,⟨hk,hJ⟩,rfl,rfl,rfl⟩;refine B1 rfl ?_;refine kQ1 [0,1,12,13,14] ?_;refine wc (fun c14=>?_) fun c14=>?_
 replace c14:=dT c14;obtain⟨x,hx⟩:=A5 (l:=xs) (k:=k) (by omega);obtain⟨y,hy⟩:=A5 (l:=ys) (k:=k) (by omega);rw[N9 _ hx hy] at hJ;refine kQ0 [0,1,12,13] ?_;refine kQ2 [0,1,5,12,13] ?_;refine dS [] (.op 0 (.op 1 (.op 2 (.op 3 (.op 4 (.op 5 (.op 6 (.op 7 .nil)))))))) [8] D6 ?_;refine kA8 ?_;refine SR.nil rfl rfl ?_;refine xG (a9r b9p (by kernel_rfl) (by kernel_rfl) Et Et rfl) ?_;refine kQ0 [0,1,12,13,24] ?_;refine wc (fun c24=>?_) fun c24=>?_
 refine kQ1 [4] ?_;refine wT h ?_;exact⟨by rw[hJ,a9y c24];rfl,rfl⟩;rw[a9A c24,Bool.true_and] at hJ;refine kQ0 [0,1,12,13] ?_;refine kA2 ?_;refine WL.nil (A4 (n1 - (k+1)) [(13,.int .i64 (k+1))] (h'':=h) (by omega) ?_ Su Sb ⟨k+1,⟨by omega,hJ⟩,rfl,rfl,rfl⟩);exact Su;replace c14:=dF c14;refine kQ0 [] ?_;refine kQ1 [4] ?_;refine wT h ?_;exact⟨by rw[hJ,List.drop_eq_nil_of_le (by omega),List.drop_eq_nil_of_le (by omega)];rfl,rfl⟩
end
section
open Go.Eng Go.Pc Go.Sx Go
open Go.Xp hiding B D5
open Go.Ty (Ty Vr Tok eqT tyV I4 B2 B4 R1 zeroK L7 D3 encV D7 VOk PrOk)
open Go.Lx (encB C4 textO)
open Go.Ly (Rw O6 G8 eqR a9A a9y a9Z)
structure TxtOk (s:B):Prop where
 n:s.length < 4294967281
 l:(L1 s).length<=1000
 p:∀ x ∈ L1 s,x.length<=100000
 t:∀ x ∈ S0 s,x.text.length<=140737488355328
def a4b (s:B):Bool:=decide (s.length < 1000)&&decide ((L1 s).length<=1000)&&(L1 s).all (fun x=>decide (x.length<=1000))&&(S0 s).all (fun x=>decide (x.text.length<=1000))
theorem Z2 {s:B} (h:a4b s=true):TxtOk s:=by
 unfold a4b at h;simp only[Bool.and_eq_true,decide_eq_true_eq,List.all_eq_true] at h;obtain⟨⟨⟨h1,h2⟩,h3⟩,h4⟩:=h;exact⟨by omega,h2,fun x hx=>by have:=h3 x hx;omega,fun x hx=>by have:=h4 x hx;omega⟩
theorem a2d {m:View} (hg:Glob m) (hp:Pow m) (s:B) (k:Int) (hT:TxtOk s) (hM:a2x s k=true) (h:List Res) :
 CT Tryz.prog 14 [str s,.int .u8 k] h m (A3 h (.bool true)):=by
 unfold a2x at hM;simp only[Bool.and_eq_true,beq_iff_eq] at hM;obtain⟨⟨⟨⟨hM1,hM2⟩,hM3⟩,hM4⟩,hM5⟩:=hM;refine CT.body Tryz.call14 Tryz.func14 rfl Tryz.ntmps14 Lb rfl ?_;refine kQ1 [0,1] ?_;refine kA1 ?_;refine xg (E1 Et) (a6m hg s hT.n hT.l hT.p _) ?_;rintro _ _ ⟨a12,c12,_,rfl,rfl,rfl⟩;refine xg (E1 Et) (a5r hg _ _ (S0 s) _ hT.t) ?_;rintro _ _ ⟨x,hh,rfl,hst,hok,rfl⟩;rw[hM2,hM3];have hxk:x.k=k:=by rw[<- (a7T x).1,hst];exact hM1
 have hpx:S6 x=S6 (N0 (S0 s)).1:=by rw[<- hst,b7Z]
 refine kA4 ?_;refine xW fun b5=>?_
 refine kQ3 [0,1,5,6,7] ?_;refine kA1 ?_;refine xg (E1 Et) (b7y hg hp x _ (hok.mono Sb)) ?_;rintro _ _ ⟨a19,c19,bl2,rfl,hrd,rfl,-⟩;rw[hpx,hM4];rw[hpx] at hrd;refine WL.perm List.perm_middle ?_;refine kQ5 [0,1,5,6,7,8,9] ?_;refine kA4 ?_;refine wV (b':=true) (by simpa using hxk) ?_;refine kA1 ?_;refine zU ?_;refine kA1 ?_;refine zU ?_;refine kA3 ?_;refine zU ?_;refine kA1 ?_;refine zU ?_;refine kA3 ?_;refine zU ?_;refine kA1 ?_;refine zU ?_;refine kA3 ?_;refine zU ?_;refine kA1 ?_;refine zU ?_;refine kA1 ?_;refine zU ?_;refine xg (E1 Et) (a6m hg s hT.n hT.l hT.p _) ?_;rintro _ _ ⟨a41,c41,_,rfl,rfl,rfl⟩;refine kR a41 fun p41 q41 r41=>?_
 refine zU ?_;refine xf (E2 Et Et) ((b2W _ _ _ _ _ _ (S6 (N0 (S0 s)).1).1 (S0 s) _ _ (hrd.mono Vl (((List.sublist_append_left _ _).cons _).cons _)) (iR r41 p41 q41)).val (congrArg Value.bool hM5)) ?_;refine kQ2 [4] ?_;refine wT h ?_;exact⟨rfl,rfl⟩
end
section
open Go.Eng Go.Pc Go
open Go.Xp hiding B D5
open Go.Ty (Ty Vr eqT tyV I4 PrOk VOk encV D7 L7 D3 eqI a1Y a1X)
open Go.Lx (encB C4)
theorem c1r {P:Program} {n:Cx} {F:Fm} {h:List Res} {m:View} {ty:TypeId} {pos:String} {after:Array Edge} {dst:Option Tmp} {g:Option (Nat × Bool)} {x y:Operand} {i j:Int} {t t':TypeId} (ex:Ev n F x (.int .i64 i)) (ey:Ev n F y (.int .i64 j)) (_:(0:Int)<=1) :
 PO P ⟨dst,.binOp .add t x y t',ty,pos,after,g⟩ n F h m (.int .i64 (IntKind.i64.wrap (i+j))):=O0 ex ey (by simp[iop])
abbrev W64 (v:Int):Int:=IntKind.i64.wrap v
theorem c2Z (a b:Int):W64 (W64 a+W64 b)=W64 (a+b):=by
 unfold W64;rw[IntKind.wrap_i64,IntKind.wrap_i64,IntKind.wrap_i64,IntKind.wrap_i64];omega
theorem a2F {x:Pr}:∀ {l:List Pr} {j:Nat},l[j]?=some x->O4 (l.take (j+1))=O4 (l.take j)+Q8 x
 | [],_,h=>by cases h
 | y::l,0,h=>by
  cases h;show Q8 _+O4 (l.take 0)=O4 []+_;rw[List.take_zero];unfold O4;omega
 | y::l,j+1,h=>by
  have ih:=a2F (l:=l) (j:=j) (by simpa using h);show Q8 y+O4 (l.take (j+1))=(Q8 y+O4 (l.take j))+_;omega
theorem a7u {g:Gu}:∀ {l:List Gu} {j:Nat},l[j]?=some g->a0v (l.take (j+1))=a0v (l.take j)+O4 g.bl
 | [],_,h=>by cases h
 | y::l,0,h=>by
  cases h;show b2J _+a0v (l.take 0)=a0v []+_;rw[List.take_zero,b03];unfold a0v;omega
 | y::l,j+1,h=>by
  have ih:=a7u (l:=l) (j:=j) (by simpa using h);show b2J y+a0v (l.take (j+1))=(b2J y+a0v (l.take j))+_;omega
theorem b2G {v:Int} {a b:Nat} {c:Int} {x:Pr} (hv:v=W64 (c+(a:Int))) (hb:b=a+Q8 x):W64 (v+W64 (Q8 x))=W64 (c+(b:Int)):=by
 subst hv hb;rw[c2Z];congr 1
 omega
set_option maxHeartbeats 4000000 in
theorem c0e (p:Pr):∀ (h:List Res) (m:View),POk m h p->CT Tryz.prog 17 [prV p] h m (A3 h (.int .i64 (W64 (Q8 p)))):=by
 refine Pr.ind (q:=fun p=>∀ (h:List Res) (m:View),POk m h p->CT Tryz.prog 17 [prV p] h m (A3 h (.int .i64 (W64 (Q8 p))))) (fun p ih h m hP=>?_) p;have hO:=hP.own;have hrl:=hO.l;have hrg:=hO.g;have hrb:=hO.sp.b;have hlx:=Nat.le_trans hrl.le hrl.mx;have hgx:=Nat.le_trans hrg.le hrg.mx;have hbx:=Nat.le_trans hrb.le hrb.mx;have hce:=a6t p;rw[a6q] at hce;refine CT.body Tryz.call17 Tryz.func17 rfl Tryz.ntmps17 Lb rfl ?_;refine j0 ?_;refine xX fun b1=>?_
 refine kQ1 [1] ?_;refine kQ1 [1,3] ?_;refine kQ4 [1,3,13,14,15] ?_;refine B0 [1,13,14] rfl (fun μ F' h'=>∃ v:Int,∃ j:Nat,(j<=p.ll.length/\v=W64 (1+(O4 (p.ll.take j):Nat)))/\p.ll.length - j=μ/\F'=[(3,.int .i64 v),(15,.int .i64 j)]/\.pt b1 (.cells (prE p).toArray 46 (0,0))::h=h') (p.ll.length - 0) [(3,.int .i64 1),(15,.int .i64 0)] (h0:=.pt b1 (.cells (prE p).toArray 46 (0,0))::h) ?_ Sb ⟨1,0,⟨Nat.zero_le _,rfl⟩,rfl,rfl,rfl⟩ ?_;exact Su;rintro _ _ _ ⟨v,j,⟨hj,hv⟩,rfl,rfl,rfl⟩;refine B1 rfl ?_;refine kQ1 [1,3,13,14,15,16] ?_;refine wc (fun c16=>?_) fun c16=>?_
 replace c16:=dT c16;obtain⟨x,hx⟩:=A5 (l:=p.ll) (k:=j) (by omega);have hin:In x p:=.l (List.mem_of_getElem? hx);refine kQ0 [1,3,13,14,15] ?_;refine kA2 ?_;refine xW fun b5=>?_
 refine kQ1 [1,3,5,13,14,15] ?_;refine kA2 ?_;refine xf (E1 Et) (ih x hin _ m ((hP.sub hin).mono Sb)) ?_;refine xG (c1r Et Et (by omega)) ?_;refine kQ1 [1,3,13,14,15] ?_;refine kA2 ?_;refine WL.nil (A4 (p.ll.length - (j+1)) [(3,.int .i64 (W64 (v+W64 (Q8 x)))),(15,.int .i64 (j+1))] (h'':=.pt b1 (.cells (prE p).toArray 46 (0,0))::h) (by omega) ?_ Su Sb ⟨W64 (v+W64 (Q8 x)),j+1,⟨by omega,b2G hv (a2F (l:=p.ll) hx)⟩,rfl,rfl,rfl⟩);exact Su;replace c16:=dF c16;rw[List.take_of_length_le (by omega)] at hv;refine kQ0 [1,3] ?_;refine kQ5 [1,3,26,27,28] ?_
 refine B0 [1,26,27] rfl (fun μ F' h'=>∃ v:Int,∃ j:Nat,(j<=p.sp.bl.length/\v=W64 ((1+(O4 p.ll:Int))+(O4 (p.sp.bl.take j):Nat)))/\p.sp.bl.length - j=μ/\F'=[(3,.int .i64 v),(28,.int .i64 j)]/\.pt b1 (.cells (prE p).toArray 46 (0,0))::h=h') (p.sp.bl.length - 0) [(3,.int .i64 v),(28,.int .i64 0)] (h0:=.pt b1 (.cells (prE p).toArray 46 (0,0))::h) ?_ Sb ⟨v,0,⟨Nat.zero_le _,by rw[hv,List.take_zero];congr 1⟩,rfl,rfl,rfl⟩ ?_;exact Su;rintro _ _ _ ⟨v,j,⟨hj,hv⟩,rfl,rfl,rfl⟩;refine B1 rfl ?_;refine kQ1 [1,3,26,27,28,29] ?_;refine wc (fun c29=>?_) fun c29=>?_
 replace c29:=dT c29;obtain⟨x,hx⟩:=A5 (l:=p.sp.bl) (k:=j) (by omega);have hin:In x p:=.s (List.mem_of_getElem? hx);refine kQ0 [1,3,26,27,28] ?_;refine kA2 ?_;refine xW fun b7=>?_
 refine kQ1 [1,3,7,26,27,28] ?_;refine kA2 ?_;refine xf (E1 Et) (ih x hin _ m ((hP.sub hin).mono Sb)) ?_;refine xG (c1r Et Et (by omega)) ?_;refine kQ1 [1,3,26,27,28] ?_;refine kA2 ?_;refine WL.nil (A4 (p.sp.bl.length - (j+1)) [(3,.int .i64 (W64 (v+W64 (Q8 x)))),(28,.int .i64 (j+1))] (h'':=.pt b1 (.cells (prE p).toArray 46 (0,0))::h) (by omega) ?_ Su Sb ⟨W64 (v+W64 (Q8 x)),j+1,⟨by omega,b2G hv (a2F (l:=p.sp.bl) hx)⟩,rfl,rfl,rfl⟩);exact Su;replace c29:=dF c29;rw[List.take_of_length_le (by omega)] at hv;refine kQ0 [1,3] ?_;refine kQ4 [3,38,39,40] ?_
 refine B0 [38,39] rfl (fun μ F' h'=>∃ v:Int,∃ j:Nat,(j<=p.gl.length/\v=W64 (((1+(O4 p.ll:Int))+(O4 p.sp.bl:Nat))+(a0v (p.gl.take j):Nat)))/\p.gl.length - j=μ/\F'=[(3,.int .i64 v),(40,.int .i64 j)]/\.pt b1 (.cells (prE p).toArray 46 (0,0))::h=h') (p.gl.length - 0) [(3,.int .i64 v),(40,.int .i64 0)] (h0:=.pt b1 (.cells (prE p).toArray 46 (0,0))::h) ?_ Sb ⟨v,0,⟨Nat.zero_le _,by rw[hv,List.take_zero];congr 1⟩,rfl,rfl,rfl⟩ ?_;exact Su;rintro _ _ _ ⟨v,j,⟨hj,hv⟩,rfl,rfl,rfl⟩;refine B1 rfl ?_;refine kQ1 [3,38,39,40,41] ?_;refine wc (fun c41=>?_) fun c41=>?_
 replace c41:=dT c41;obtain⟨g,hg1⟩:=A5 (l:=p.gl) (k:=j) (by omega);have hgm:=List.mem_of_getElem? hg1;have hgb:=(hO.gs g hgm).b;have hgbx:=Nat.le_trans hgb.le hgb.mx;refine kQ0 [3,38,39,40] ?_;refine kA2 ?_;refine xW fun b9=>?_
 refine kQ1 [3,9,38,39,40] ?_;refine kQ4 [3,38,39,40,45,46,47] ?_;refine B0 [38,39,40,45,46] rfl (fun μ F' h'=>∃ w:Int,∃ i:Nat,(i<=g.bl.length/\w=W64 ((((1+(O4 p.ll:Int))+(O4 p.sp.bl:Nat))+(a0v (p.gl.take j):Nat))+(O4 (g.bl.take i):Nat)))/\g.bl.length - i=μ/\F'=[(3,.int .i64 w),(47,.int .i64 i)]/\.pt b1 (.cells (prE p).toArray 46 (0,0))::h=h') (g.bl.length - 0) [(3,.int .i64 v),(47,.int .i64 0)] (h0:=.pt b1 (.cells (prE p).toArray 46 (0,0))::h) ?_ Sb ⟨v,0,⟨Nat.zero_le _,by rw[hv,List.take_zero];congr 1⟩,rfl,rfl,rfl⟩ ?_;exact Su;rintro _ _ _ ⟨w,i,⟨hi,hw⟩,rfl,rfl,rfl⟩;refine B1 rfl ?_;refine kQ1 [3,38,39,40,45,46,47,48] ?_;refine wc (fun c48=>?_) fun c48=>?_
 replace c48:=dT c48;obtain⟨x,hx⟩:=A5 (l:=g.bl) (k:=i) (by omega);have hin:In x p:=.g hgm (List.mem_of_getElem? hx);refine kQ0 [3,38,39,40,45,46,47] ?_;refine kA2 ?_;refine xW fun b11=>?_
 refine kQ1 [3,11,38,39,40,45,46,47] ?_;refine kA2 ?_;refine xf (E1 Et) (ih x hin _ m ((hP.sub hin).mono Sb)) ?_;refine xG (c1r Et Et (by omega)) ?_;refine kQ1 [3,38,39,40,45,46,47] ?_;refine kA2 ?_;refine WL.nil (A4 (g.bl.length - (i+1)) [(3,.int .i64 (W64 (w+W64 (Q8 x)))),(47,.int .i64 (i+1))] (h'':=.pt b1 (.cells (prE p).toArray 46 (0,0))::h) (by omega) ?_ Su Sb ⟨W64 (w+W64 (Q8 x)),i+1,⟨by omega,b2G hw (a2F (l:=g.bl) hx)⟩,rfl,rfl,rfl⟩);exact Su;replace c48:=dF c48;rw[List.take_of_length_le (l:=g.bl) (by omega)] at hw;refine kQ0 [3,38,39,40] ?_;refine kA2 ?_;refine WL.nil (A4 (p.gl.length - (j+1)) [(3,.int .i64 w),(40,.int .i64 (j+1))] (h'':=.pt b1 (.cells (prE p).toArray 46 (0,0))::h) (by omega) ?_ Su Sb ⟨w,j+1,⟨by omega,by rw[hw,a7u hg1];congr 1;omega⟩,rfl,rfl,rfl⟩);exact Su;replace c41:=dF c41;rw[List.take_of_length_le (by omega)] at hv;refine kQ0 [3] ?_;refine kQ2 [2] ?_
 refine wT h ?_;exact⟨by rw[hv,hce];congr 2;omega,rfl⟩
end
section
open Go.Eng Go.Pc Go
open Go.Xp hiding B D5
open Go.Ty (Ty Vr eqT tyV I4 PrOk VOk encV D7 L7 D3 eqI a1Y a1X)
open Go.Lx (encB C4)
theorem b3g (m:View) (h:List Res):EOk m h A2:=⟨.mk (Rd.nilF exE 6 m h) (fun _ hx=>(List.not_mem_nil hx).elim),.mk (by decide) (by decide) (by decide) (by decide) (by decide) fun _ hx=>(List.not_mem_nil hx).elim⟩
theorem c0V (m:View) (h:List Res):LOk m h B7:=⟨Rd.nilF exE 6 m h,fun _ hx=>(List.not_mem_nil hx).elim⟩
theorem c3G (m:View) (h:List Res):PrOk m h none 0 0 []:=⟨Rd.nilF encV 2 m h,fun _ hx=>(List.not_mem_nil hx).elim,fun _ hx=>(List.not_mem_nil hx).elim⟩
theorem c3m:TyW Go.Ty.zeroT:=⟨by decide,by decide,by decide,by decide⟩
structure SpF (m:View) (h:List Res) (ty:Ty) (e:Ex) (vs:Sli Vr) (fs:Sli Fo):Prop where
 t:TyW ty
 e:EOk m h e
 v:PrOk m h vs.a vs.l.length vs.c vs.l
 vw:∀ x ∈ vs.l,x.items.length=x.n
 f:Rd m h fs.a fs.l.length fs.c 6 (fl foE fs.l)
 fw:∀ x ∈ fs.l,FoW x
theorem c3S {m:View} {h:List Res} {k:Int} {ty:Ty} {nm:Sli B} {e:Ex} {cs:Bool} {vs:Sli Vr} {fs:Sli Fo} {ba:Option Addr} {bc:Nat} {bl:List Pr} (hk:0<=k/\k<=255) (q:SpF m h ty e vs fs) (hn:Rd m h nm.a nm.l.length nm.c 1 (fl encB nm.l)) (hw:∀ x ∈ nm.l,x.length<=Big)
 (hb:Rd m h ba bl.length bc 42 (fl prE bl)) (hp:∀ x ∈ bl,POk m h x):SK m h (.mk k ty nm e cs vs fs ba bc bl):=⟨⟨hk,q.t,hn,hw,q.e,q.v,q.vw,q.f,q.fw,hb⟩,hp⟩
theorem b3q {α:Type} {p:α->Prop}:∀ x ∈ (B7:Sli α).l,p x:=fun _ hx=>(List.not_mem_nil hx).elim
theorem c4v (m:View) (h:List Res):SK m h D2:=c3S (by decide) ⟨c3m,b3g m h,c3G m h,b3q,Rd.nilF foE 6 m h,b3q⟩ (Rd.nilF encB 1 m h) b3q (Rd.nilF prE 42 m h) (fun _ hx=>(List.not_mem_nil hx).elim)
end
section
open Go.Eng Go.Pc Go
open Go.Xp hiding B D5
open Go.Ty (Ty Vr eqT tyV I4 PrOk VOk encV D7 L7 D3 eqI a1Y a1X)
open Go.Lx (encB C4)
theorem b9Q {m:View} {h:List Res} {nm:B} {ch:Ex} {tg ex:Sli Ex} {pn:Sli Int} {sp:Sp} (hn:nm.length<=Big) (hc:EOk m h ch) (ht:LOk m h tg) (he:LOk m h ex) (hpn:Rd m h pn.a pn.l.length pn.c 1 (fl a3e pn.l)) (hpw:∀ x ∈ pn.l,-9223372036854775808<=x/\x<=9223372036854775807) (hs:SK m h sp) :
 POk m h (c3Y nm ch tg ex pn sp):=
 .mk ⟨by show 0<=(0:Int)/\(0:Int)<=255;decide,hn,hc,ht,he,Nat.zero_le _,b3g m h,b3g m h,Rd.nilF guE 23 m h,fun _ hx=>(List.not_mem_nil hx).elim,Rd.nilF prE 42 m h,hpn,hpw,hs.o⟩ fun x hx=>by cases hx with
  | l q=>exact(List.not_mem_nil q).elim
  | s q=>exact hs.b x q
  | g q _=>exact(List.not_mem_nil q).elim
theorem c2I (m:View) (h:List Res):POk m h a9w:=b9Q (by decide) (b3g m h) (c0V m h) (c0V m h) (Rd.nilF a3e 1 m h) b3q (c4v m h)
end
section
open Go.Eng Go.Pc Go.Sx Go
open Go.Xp hiding B D5
open Go.Ty (Ty Vr Tok eqT tyV I4 B2 B4 R1 zeroK L7 D3 encV D7 VOk PrOk)
open Go.Lx (encB C4 textO)
open Go.Ly (Rw O6 G8 eqR a9A a9y a9Z)
theorem pt0:a4b [120,44,32,121,32,58,61,32,49,44,32,118,91,105,93]=true:=by decide +kernel
theorem pm0:a2x [120,44,32,121,32,58,61,32,49,44,32,118,91,105,93] 3=true:=by decide +kernel
theorem pt1:a4b [73,78,84,32,120,58,47,83,69,81,32,105,32,61,32,48,32,70,79,82,32,52,47,46,99,32,33,32,120]=true:=by decide +kernel
theorem pm1:a2x [73,78,84,32,120,58,47,83,69,81,32,105,32,61,32,48,32,70,79,82,32,52,47,46,99,32,33,32,120] 18=true:=by decide +kernel
theorem pt2:a4b [65,76,84,47,46,110,32,62,32,48,32,38,32,99,32,63,32,120,47,46,46,83,75,73,80,47,46,116,32,63,32,65,70,84,69,82,32,110,47,46,46,83,84,79,80]=true:=by decide +kernel
theorem pm2:a2x [65,76,84,47,46,110,32,62,32,48,32,38,32,99,32,63,32,120,47,46,46,83,75,73,80,47,46,116,32,63,32,65,70,84,69,82,32,110,47,46,46,83,84,79,80] 12=true:=by decide +kernel
theorem pt3:a4b [80,82,79,84,79,67,79,76,32,112,47,46,67,65,83,69,47,46,46,112,117,116,59,32,73,78,84,47,46,46,101,110,100,47,58,47,83,75,73,80]=true:=by decide +kernel
theorem pm3:a2x [80,82,79,84,79,67,79,76,32,112,47,46,67,65,83,69,47,46,46,112,117,116,59,32,73,78,84,47,46,46,101,110,100,47,58,47,83,75,73,80] 18=true:=by decide +kernel
theorem pt4:a4b [87,72,73,76,69,32,84,82,85,69,47,46,83,75,73,80]=true:=by decide +kernel
theorem pm4:a2x [87,72,73,76,69,32,84,82,85,69,47,46,83,75,73,80] 16=true:=by decide +kernel
theorem ft0:a4b [83,69,81,47,46,120,32,58,61,32,49,47,46,46,83,75,73,80]=true:=by decide +kernel
theorem fm0:a1V [83,69,81,47,46,120,32,58,61,32,49,47,46,46,83,75,73,80] 2 110=true:=by decide +kernel
theorem ft1:a4b [83,69,81,32,105,32,61,32,48,32,70,79,82,32,51,47,46,83,75,73,80,47,46,83,75,73,80]=true:=by decide +kernel
theorem fm1:a1V [83,69,81,32,105,32,61,32,48,32,70,79,82,32,51,47,46,83,75,73,80,47,46,83,75,73,80] 2 110=true:=by decide +kernel
theorem ft2:a4b [83,75,73,80,47,83,75,73,80]=true:=by decide +kernel
theorem fm2:a1V [83,75,73,80,47,83,75,73,80] 1 110=true:=by decide +kernel
theorem ft3:a4b [40,120,41,32,58,61,32,49]=true:=by decide +kernel
theorem fm3:a1V [40,120,41,32,58,61,32,49] 0 110=true:=by decide +kernel
theorem ft4:a4b [120,32,58,61,32,49,32,43,32,50,32,43,32,51]=true:=by decide +kernel
theorem fm4:a1V [120,32,58,61,32,49,32,43,32,50,32,43,32,51] 0 110=true:=by decide +kernel
theorem ft5:a4b [83,69,81,47,46,120,32,58,61,32,36]=true:=by decide +kernel
theorem fm5:a1V [83,69,81,47,46,120,32,58,61,32,36] 1 80=true:=by decide +kernel
theorem ft6:a4b [73,78,84,32,120,58]=true:=by decide +kernel
theorem fm6:a1V [73,78,84,32,120,58] 1 110=true:=by decide +kernel
theorem ft7:a4b [80,82,73,32,80,65,82,47,46,83,75,73,80]=true:=by decide +kernel
theorem fm7:a1V [80,82,73,32,80,65,82,47,46,83,75,73,80] 2 110=true:=by decide +kernel
theorem a0o {m:View} (hg:Glob m) (s:B) (n e:Int) (hT:TxtOk s) (hM:a1V s n e=true) (h:List Res) :
 CT Tryz.prog 15 [str s,.int .i64 n,.int .i64 e] h m (A3 h (.bool true)):=by
 unfold a1V at hM;simp only[Bool.and_eq_true,beq_iff_eq] at hM;obtain⟨⟨hM1,hM2⟩,hM3⟩:=hM;refine CT.body Tryz.call15 Tryz.func15 rfl Tryz.ntmps15 Lb rfl ?_;refine kQ1 [0,1,2] ?_;refine kA1 ?_;refine xg (E1 Et) (a6m hg s hT.n hT.l hT.p _) ?_;rintro _ _ ⟨a12,c12,_,rfl,rfl,rfl⟩;refine xg (E1 Et) (a5r hg _ _ (S0 s) _ hT.t) ?_;rintro _ _ ⟨x,hh,rfl,hst,hok,rfl⟩;rw[hM2,hM3];have hsx:J7 x a9w=true:=by rw[<- b3Z,hst];exact hM1
 refine kA4 ?_;refine xW fun b7=>?_
 refine kQ3 [1,2,7,8,9] ?_;refine kA2 ?_;refine xf (E2 Et Et) ((b7N x a9w _ _ (hok.mono Sb) (c2I m _)).val (congrArg Value.bool hsx)) ?_;refine kA1 ?_;refine zU ?_;refine kA1 ?_;refine zU ?_;refine kA1 ?_;refine zU ?_;refine kA1 ?_;refine wV (b':=true) (by simp) ?_;refine kA2 ?_;refine zU ?_;refine kA1 ?_;refine zU ?_;refine kA1 ?_;refine zU ?_;refine kA1 ?_;refine wV (b':=true) (by simp) ?_;refine kQ2 [6] ?_;refine wT h ?_;exact⟨rfl,rfl⟩
def skP:Pr:=.mk 1 [] A2 B7 B7 a9K none 0 [] none 0 [] B7 D2
def unP (k:Int) (b:Nat):Pr:=.mk k [] A2 B7 B7 a9K none 0 [] (some ⟨b,0,none⟩) 1 [skP] B7 D2
theorem c0Q (m:View) (h:List Res):POk m h skP:=b5A m h (k:=1) (by decide)
theorem c1b {m:View} {h:List Res} {k:Int} {b:Nat} (hk:0<=k/\k<=255) (hb:Res.pt b (.cells (prE skP).toArray 46 (0,0)) ∈ h):POk m h (unP k b):=
 a4a hk (Nat.zero_le _) (E6 _ _) (F5 _ _) (F5 _ _) (U1 _ _) (a0b _ _) ⟨Rd.ofPt rfl (show 1<=9223372036854775807 by decide) hb,fun x hx=>by rw[List.mem_singleton] at hx;subst hx;exact c0Q m h⟩ (W7 _ _) (Q5 _ _)
theorem c1S (b:Nat):mayP (unP 10 b)=false:=by kernel_rfl
theorem c2q:mayP skP=true:=by kernel_rfl
theorem c2c (b:Nat):W64 (Q8 (unP 16 b))=2:=by kernel_rfl
theorem c4r:(N0 []).2=(0,110):=by kernel_rfl
set_option maxHeartbeats 2000000 in
theorem b7T {m:View} (hg:Glob m) (hp:Pow m) (h:List Res):CT Tryz.prog 6 [] h m (A3 h (.bool true)):=by
 refine CT.body Tryz.call6 Tryz.func6 rfl Tryz.ntmps6 Lb rfl ?_;refine kQ1 [] ?_;refine xf (E2 Ek Ek) (a2d hg hp _ _ (Z2 pt0) pm0 _) ?_;refine kA1 ?_;refine zU ?_;refine xf (E2 Ek Ek) (a2d hg hp _ _ (Z2 pt1) pm1 _) ?_;refine kA2 ?_;refine zU ?_;refine xf (E2 Ek Ek) (a2d hg hp _ _ (Z2 pt2) pm2 _) ?_;refine kA2 ?_;refine zU ?_;refine xf (E2 Ek Ek) (a2d hg hp _ _ (Z2 pt3) pm3 _) ?_;refine kA2 ?_;refine zU ?_;refine xf (E2 Ek Ek) (a2d hg hp _ _ (Z2 pt4) pm4 _) ?_;refine kQ2 [1] ?_;refine xf (E3 Ek Ek Ek) (a0o hg _ _ _ (Z2 ft0) fm0 _) ?_;refine kA1 ?_;refine zU ?_;refine xf (E3 Ek Ek Ek) (a0o hg _ _ _ (Z2 ft1) fm1 _) ?_;refine kA2 ?_;refine zU ?_;refine xf (E3 Ek Ek Ek) (a0o hg _ _ _ (Z2 ft2) fm2 _) ?_;refine kA2 ?_;refine zU ?_;refine xf (E3 Ek Ek Ek) (a0o hg _ _ _ (Z2 ft3) fm3 _) ?_;refine kA2 ?_;refine zU ?_;refine xf (E3 Ek Ek Ek) (a0o hg _ _ _ (Z2 ft4) fm4 _) ?_;refine kA2 ?_;refine zU ?_
 refine xf (E3 Ek Ek Ek) (a0o hg _ _ _ (Z2 ft5) fm5 _) ?_;refine kA2 ?_;refine zU ?_;refine xf (E3 Ek Ek Ek) (a0o hg _ _ _ (Z2 ft6) fm6 _) ?_;refine kA2 ?_;refine zU ?_;refine xf (E3 Ek Ek Ek) (a0o hg _ _ _ (Z2 ft7) fm7 _) ?_;refine kQ2 [1,2] ?_;refine xg (E1 Ek) (b0n hg none 0 [] _ (Rd.nilF O6 3 m []) nofun) ?_;rintro _ _ ⟨x,hh,rfl,hst,hok,rfl⟩;rw[c4r];refine kA4 ?_;refine xW fun b3=>?_
 refine kQ3 [1,2,4,5] ?_;refine kA1 ?_;refine xW fun b6=>?_
 refine kQ1 [1,2,4,5,6] ?_;refine kA2 ?_;refine zU ?_;refine kA3 ?_;refine zU ?_;refine kA1 ?_;refine zU ?_;refine kA3 ?_;refine zU ?_;refine kA1 ?_;refine zU ?_;refine kA3 ?_;refine zU ?_;refine kA1 ?_;refine zU ?_;refine xY Z8 Eb fun b62=>?_
 refine zU ?_;refine kA1 ?_;refine zU ?_;refine xf (E1 Et) ((a9X hg (unP 10 b62) (c1b (by decide) Me)).val (congrArg Value.bool (c1S _))) ?_;refine zU ?_;refine kA3 ?_;refine zU ?_;refine kA1 ?_;refine zU ?_;refine xf (E1 Et) ((a9X hg skP (c0Q m _)).val (congrArg Value.bool c2q)) ?_;refine kA2 ?_;refine zU ?_;refine kA1 ?_;refine zU ?_;refine xY Z8 Eb fun b73=>?_
 refine zU ?_;refine kA1 ?_;refine zU ?_;refine xf (E1 Et) ((c0e (unP 16 b73) _ m (c1b (by decide) Me)).val (congrArg (Value.int .i64) (c2c _))) ?_;refine zU ?_;refine kQ3 [0] ?_;refine wT h ?_;exact⟨rfl,rfl⟩
end
section
open Go.Eng Go.Pc Go.Sx Go
open Go.Xp hiding B D5
def Q6 (s:B) (between:B):Nat->B
 | 0=>[]
 | 1=>s
 | n+2=>s++(between++Q6 s between (n+1))
def a0y (s:B):Nat->B
 | 0=>[]
 | n+1=>s++a0y s n
theorem a8E (s:B):∀ n,Lib.repeatL s n=a0y s n
 | 0=>rfl
 | n+1=>by
  show s++Lib.repeatL s n=s++a0y s n;rw[a8E s n]
theorem a7o (s b:B):∀ n,Lib.join (List.replicate n s) b=Q6 s b n
 | 0=>rfl
 | 1=>Lib.join_one s b
 | n+2=>by
  have ih:=a7o s b (n+1);rw[List.replicate_succ,Lib.join_cons] at ih;rw[List.replicate_succ,Lib.join_cons,List.replicate_succ];show s++Lib.joinTail b (s::List.replicate n s)=s++(b++Q6 s b (n+1));rw[<- ih];simp[Lib.joinTail]
def b1k (s:B) (should:Bool) (row:Int):Bool:=if should then (N0 (S0 s)).2.2==0 else ((N0 (S0 s)).2.2==110)&&(((N0 (S0 s)).2.1:Int)==row)
def a6T:Nat->B
 | 0=>[]
 | n+1=>a6T n++([47,46,46,116]++[UInt8.ofNat (97+n)])
def lst (s:B) (should:Bool) (row:Int):Bool:=a4b s&&b1k s should row
def L3 (n:Nat):Bool:=
 lst (Q6 [120] [44,32] n++[32,58,61,32,49]) (decide (n<=8)) 0&&(lst ([120,32,58,61,32]++Q6 [120] [44,32] n) (decide (n<=8)) 0&&(lst ([99,32,63,32]++Q6 [120] [59,32] n) (decide (n<=8)) 0&&(lst ([99,32,33,32]++Q6 [120] [59,32] n) (decide (n<=9)) 0 &&
 (lst (([73,78,84,32]++Q6 [120] [44,32] n)++[58,47,83,75,73,80]) (decide (n<=8)) 0&&(lst (([102,40]++Q6 [120] [44,32] n)++[41]) (decide (n<=8)) 0&&(lst (([80,82,79,67,32,102,40]++Q6 [73,78,84,32,97] [44,32] n)++[41,47,46,83,75,73,80,47,58,47,83,75,73,80]) (decide (n<=8)) 0&&(lst (([80,82,79,84,79,67,79,76,32,112,32,73,83,32]++Q6 [73,78,84] [59,32] n)++[58,47,83,75,73,80]) (decide (n<=8)) 0 &&
 (lst (([80,82,79,84,79,67,79,76,32,112,47,46,67,65,83,69]++a6T n)++[47,58,47,83,75,73,80]) (decide (n<=16)) 18&&(lst ([65,76,84]++a0y [47,46,99,32,63,32,120,47,46,46,83,75,73,80] n) (decide (n<=16)) 33&&(lst ([73,70]++a0y [47,46,84,82,85,69,47,46,46,83,75,73,80] n) (decide (n<=16)) 33&&(lst ([67,65,83,69,32,120]++a0y [47,46,49,47,46,46,83,75,73,80] n) (decide (n<=16)) 33&&(lst ([99,32,63,32,67,65,83,69]++a0y [47,46,116,47,46,46,83,75,73,80] n) (decide (n<=16)) 33 &&
 (lst ([80,76,65,67,69,68,32,80,65,82]++a0y [47,46,80,82,79,67,69,83,83,79,82,32,55,47,46,46,83,75,73,80] n) (decide (n<=8)) 17&&lst ([83,69,81]++a0y [47,46,83,75,73,80] n) true 0)))))))))))))
theorem c07:L3 1=true:=by decide +kernel
theorem b8U:L3 2=true:=by decide +kernel
theorem c0y:L3 3=true:=by decide +kernel
theorem b9d:L3 4=true:=by decide +kernel
theorem b8W:L3 5=true:=by decide +kernel
theorem b9R:L3 6=true:=by decide +kernel
theorem b9n:L3 7=true:=by decide +kernel
theorem b9F:L3 8=true:=by decide +kernel
theorem c0B:L3 9=true:=by decide +kernel
theorem b8d:L3 10=true:=by decide +kernel
theorem b86:L3 11=true:=by decide +kernel
theorem b6x:L3 12=true:=by decide +kernel
theorem b7z:L3 13=true:=by decide +kernel
theorem b7H:L3 14=true:=by decide +kernel
theorem b78:L3 15=true:=by decide +kernel
theorem b6p:L3 16=true:=by decide +kernel
theorem b6L:L3 17=true:=by decide +kernel
theorem b6d:L3 18=true:=by decide +kernel
theorem b6K:L3 19=true:=by decide +kernel
theorem b5T:L3 20=true:=by decide +kernel
theorem b5F {n:Nat} (h1:1<=n) (h2:n<=20):L3 n=true:=by
 have h:n=1\/n=2\/n=3\/n=4\/n=5\/n=6\/n=7\/n=8\/n=9\/n=10\/n=11\/n=12\/n=13\/n=14\/n=15\/n=16\/n=17\/n=18\/n=19\/n=20:=by omega
 rcases h with rfl | rfl | rfl | rfl | rfl | rfl | rfl | rfl | rfl | rfl | rfl | rfl | rfl | rfl | rfl | rfl | rfl | rfl | rfl | rfl
 ·exact c07
 ·exact b8U
 ·exact c0y
 ·exact b9d
 ·exact b8W
 ·exact b9R
 ·exact b9n
 ·exact b9F
 ·exact c0B
 ·exact b8d
 ·exact b86
 ·exact b6x
 ·exact b7z
 ·exact b7H
 ·exact b78
 ·exact b6p
 ·exact b6L
 ·exact b6d
 ·exact b6K
 ·exact b5T
end
section
open Go.Eng Go.Pc Go
open Go.Xp hiding B D5
open Go.Ty (Ty Vr eqT tyV I4 PrOk VOk encV D7 L7 D3 eqI a1Y a1X)
open Go.Lx (encB C4)
theorem V7 {α:Type} {q:α->α->Bool}:∀ l r:List α,(∀ x ∈ l,∀ y,q x y=q y x)->eqL q l r=eqL q r l
 | [],[],_=>rfl
 | [],_::_,_=>rfl
 | _::_,[],_=>rfl
 | a::r,b::s,h=>by show(q a b&&eqL q r s)=(q b a&&eqL q s r);rw[h a (List.mem_cons_self ..) b,V7 r s (fun x hx=>h x (List.mem_cons_of_mem _ hx))]
theorem S2 (a b:Ex):E5 a b=E5 b a:=by rw[Bool.eq_iff_iff,a09,a09];exact eq_comm
theorem N3 {α:Type} [BEq α] [LawfulBEq α] (a b:α):(a==b)=(b==a):=by rw[Bool.eq_iff_iff,beq_iff_eq,beq_iff_eq];exact eq_comm
theorem b0m (a b:Ty):eqT a b=eqT b a:=by rw[Bool.eq_iff_iff,Go.Ty.eqT_iff,Go.Ty.eqT_iff];exact eq_comm
theorem b4u (a b:Fo):a1p a b=a1p b a:=by unfold a1p;rw[N3 a.val,b0m a.ty,N3 a.name]
theorem b0q (a b:Vr):R5 a b=R5 b a:=by unfold R5;rw[N3 a.tag,N3 a.items]
theorem a1v (l r:List Ex):eqL E5 l r=eqL E5 r l:=V7 l r fun x _ y=>S2 x y
theorem a7J (p:Pr):∀ q,J7 p q=J7 q p:=by
 refine Pr.ind (q:=fun p=>∀ q,J7 p q=J7 q p) (fun p ih q=>?_) p;have hs:a2a p.sp q.sp=a2a q.sp p.sp:=by
  rw[a4X,a4X,N3 p.sp.k,b0m p.sp.ty,V7 p.sp.fs.l _ fun x _ y=>b4u x y,V7 p.sp.names.l _ fun x _ y=>N3 x y,S2 p.sp.e,V7 p.sp.bl _ fun x hx y=>ih x (.s hx) y];unfold a0z;rw[N3 p.sp.cs,V7 p.sp.vs.l _ fun x _ y=>b0q x y]
 have hg:eqL X4 p.gl q.gl=eqL X4 q.gl p.gl:=V7 p.gl _ fun x hx y=>by
  rw[a7F,a7F,N3 x.k,N3 x.name,S2 x.cond,S2 x.ch,S2 x.time,a1v x.tg.l,a1v x.vl.l,V7 x.bl _ fun z hz w=>ih z (.g hx hz) w]
 rw[a7q p q,a7q q p,hs,hg,V7 p.pn.l _ fun x _ y=>N3 x y,N3 p.k,N3 p.name,S2 p.ch,a1v p.tg.l,a1v p.ex.l,V7 p.ll _ fun x hx y=>ih x (.l hx) y];unfold a4p;rw[N3 p.rep.name,S2 p.rep.base,S2 p.rep.count]
end
end Go.Proofs.YtmhkeomphdddaaaGreatDoor
namespace Go.Proofs.YtmhkeomphdddaaaGreatDoor.Ly7
section
open Go.Eng Go.Ly Go
theorem c08 (c:UInt8):(decide ((c.toNat:Int) < 32)||decide ((c.toNat:Int) > 126))=!okB c:=by
 unfold okB;by_cases h1:(c.toNat:Int) < 32
 ·simp[h1]
 ·by_cases h2:(c.toNat:Int) > 126
  ·simp[h2]
  ·simp[h1,h2]
   omega
theorem b5N {s:B} {k:Nat} {c:UInt8} (hc:s[k]?=some c) (hk:s.all okB=(s.drop k).all okB):s.all okB=(okB c&&(s.drop (k+1)).all okB):=by
 rw[hk,W2 hc];rfl
theorem b0x (s:B) (h:List Res) (m:View) (hs:s.length<=140737488355328):CT Tryz.prog 37 [str s] h m (A3 h (.bool (s.all okB))):=by
 have hd:∀ k,k < s.length->s[k]?=some (s.getD k 0):=fun k hi=>by rw[List.getD_eq_getElem?_getD,List.getElem?_eq_getElem hi];rfl
 refine CT.body Tryz.call37 Tryz.func37 rfl Tryz.ntmps37 Lb rfl ?_;refine kQ1 [0] ?_;refine kQ1 [0,3] ?_;refine B0 [0] rfl (fun μ F' h'=>∃ k:Nat,(k<=s.length/\s.all okB=(s.drop k).all okB)/\s.length - k=μ/\F'=[(3,.int .i64 k)]/\h=h') (s.length - 0) [(3,.int .i64 0)] (h0:=h) ?_ Sb ⟨0,⟨by omega,rfl⟩,rfl,rfl,rfl⟩ ?_;exact Su;rintro _ _ _ ⟨k,⟨hk,hJ⟩,rfl,rfl,rfl⟩;refine B1 rfl ?_;refine kA2 ?_;refine xG (L2 uu9 Et) ?_;refine kQ1 [0,3,7] ?_;refine wc (fun c7=>?_) fun c7=>?_
 replace c7:=dT c7;obtain⟨c,hc⟩:=A5 (l:=s) (k:=k) (by omega);have hJ:=b5N hc hJ;have hn:=c08 c;refine kQ0 [0,3] ?_;refine kA2 ?_;refine xG (I7 uu9 Et Et rfl (by assumption)) ?_;refine kA4 ?_;refine zG (fun hc=>I7 uu9 (Eg hc) (Eg hc) rfl (by assumption)) ?_;refine kQ2 [0,3,19] ?_;refine wc (fun c19=>?_) fun c19=>?_
 replace hn:=hn.symm.trans c19;refine kQ1 [2] ?_;refine wT h ?_;exact⟨by rw[hJ,show okB c=false by simpa using hn];rfl,rfl⟩;replace hn:=hn.symm.trans c19;refine kQ0 [0,3] ?_;refine kA3 ?_;refine WL.nil (A4 (s.length - (k+1)) [(3,.int .i64 (k+1))] (h'':=h) (by omega) ?_ Su Sb ⟨k+1,⟨by omega,by rw[hJ,show okB c=true by simpa using hn];rfl⟩,rfl,rfl,rfl⟩);exact Su;replace c7:=dF c7;refine kQ0 [] ?_;refine kQ1 [2] ?_;refine wT h ?_;exact⟨by rw[hJ,List.drop_eq_nil_of_le (by omega)];rfl,rfl⟩
end
end Go.Proofs.YtmhkeomphdddaaaGreatDoor.Ly7
namespace Go.Proofs.YtmhkeomphdddaaaGreatDoor
section
open Go.Eng Go.Pc Go.Sx Go
open Go.Xp hiding B D5
open Go.Ly (Rw O6 G8)
def Law:Value->View->List Res->Prop:=fun v _ _=>v=.bool true
theorem b8K (p q:Pr):J7 p (stP q)=J7 p q:=by rw[a7J,b3Z,a7J]
end
end Go.Proofs.YtmhkeomphdddaaaGreatDoor
