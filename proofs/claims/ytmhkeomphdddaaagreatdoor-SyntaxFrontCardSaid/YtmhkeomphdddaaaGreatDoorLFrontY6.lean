import Derived.Test.YtmhkeomphdddaaaGreatDoorLFrontY5
import Derived.Lib.SplitLaws
set_option maxRecDepth 100000
set_option maxHeartbeats 2000000
namespace Go.Proofs.YtmhkeomphdddaaaGreatDoor.Ly7
section
open Go.Eng Go.Ly Go
theorem a8I (l:B) (c:UInt8) (h:List Res) (m:View):CT Tryz.prog 72 [str l,.int .u8 c.toNat] h m (A4 h (.int .i64 (Lib.indexByte l c))):=
 CT.ofCalls Tryz.call72 fun w _=>by
  have:=Tryz.strings_IndexByte ⟨l.toArray⟩ c.toNat w;rw[show(c.toNat:Int).toNat.toUInt8=c by simp] at this;exact this
theorem b5h (c:UInt8) (h:List Res) (m:View):CT Tryz.prog 48 [.int .u8 c.toNat] h m (A4 h (.bool (okB c))):=by
 refine CT.body Tryz.call48 Tryz.func48 rfl Tryz.ntmps48 Lb rfl ?_;refine kQ1 [0] ?_;refine kQ7 [2] ?_;refine wT h ?_;exact⟨rfl,rfl⟩
theorem c0R {s:B} (h0:s≠[]):∃ c,s[s.length - 1]?=some c/\a7A s=b0s.contains c:=by
 refine⟨s.getLast h0,?_,?_⟩
 ·rw[<- List.getLast?_eq_getElem?,List.getLast?_eq_some_getLast h0]
 ·unfold a7A
  rw[List.getLast?_eq_some_getLast h0]
theorem b1y (s:B) (h0:s≠[]) (hs:s.length<=9223372036854775807) (h:List Res) (m:View):CT Tryz.prog 47 [str s] h m (A4 h (.bool (a7A s))):=by
 obtain⟨c,hc,he⟩:=c0R h0;have hp:0 < s.length:=List.length_pos_iff.2 h0;refine CT.body Tryz.call47 Tryz.func47 rfl Tryz.ntmps47 Lb rfl ?_;refine kQ1 [0] ?_;refine kA2 ?_;refine xG (I0 uu9 Et) ?_;refine xG (Q5 Et Ek (by omega)) ?_;refine WL.val (v':=.int .i64 ((s.length - 1:Nat):Int)) (congrArg (Value.int .i64) (by omega)) ?_;refine xG (H1 uu9 Et Et rfl (by assumption)) ?_;refine xf (E2 Ek Et) (CT.argsE rfl (a8I b0s c _ _)) ?_;refine kQ2 [2] ?_;refine wT h ?_;exact⟨by rw[he,<- b3K],rfl⟩
theorem c3N (s:B) (h:List Res) (m:View) (hs:s.length<=9223372036854775807):CT Tryz.prog 45 [str s,str [32]] h m (A4 h (str (Lib.trimB s 32))):=
 ⟨Tryz.call45,fun w st=>Calls.mono (Tryz.strings_Trim_one ⟨s.toArray⟩ 32 (by decide) w hs) (by
  rintro e w' ⟨rfl,hw⟩;rcases hw with rfl | rfl
  ·exact⟨_,m,h,rfl,Vl,st,rfl,rfl⟩
  ·exact⟨_,m,h,rfl,Vl,st.drew,rfl,rfl⟩)⟩
theorem b8J {m:View} (hg:Glob m) (s:B) (hs:s.length<=140737488355328) (h:List Res):CT Tryz.prog 27 [str s] h m (A4 h (.bool (validP s))):=by
 have hs':s.length<=140737488355328:=by omega
 have hs2:s.length<=9223372036854775807:=by omega
 have hd:∀ k,k < s.length->s[k]?=some (s.getD k 0):=fun k hi=>by rw[List.getD_eq_getElem?_getD,List.getElem?_eq_getElem hi];rfl
 refine CT.body Tryz.call27 Tryz.func27 rfl Tryz.ntmps27 Lb rfl ?_;refine kQ1 [0] ?_;refine kA1 ?_;refine xG (N8 Et Ek) ?_;refine kA2 ?_;refine zG (fun hc=>I0 uu9 (Eg hc)) ?_;refine kA4 ?_;refine A6 (GU.f rfl rfl) (fun hc=>⟨Ef,(E2 (Eg hc) Ek),c3N s _ _ hs2⟩) Lb ?_;refine kA1 ?_;refine zG (fun hc=>R4 (Eg hc) (Eg hc)) ?_;refine kA3 ?_;refine A6 (GU.f rfl rfl) (fun hc=>⟨Ef,(E2 (Eg hc) Ek),a0W hg s [45,45] (by simp at hc;omega) _⟩) Lb ?_;refine kA3 ?_;refine A6 (GU.f rfl rfl) (fun hc=>⟨Ef,(E1 (Eg hc)),b1y s (by intro e;subst e;simp at hc) hs2 _ _⟩) Lb ?_;refine kQ1 [0,24] ?_;refine wc (fun c24=>?_) fun c24=>?_
 have hb:b7q s=true:=c24;refine kQ1 [2] ?_;refine wT h ?_;exact⟨by unfold validP;rw[hb];rfl,rfl⟩;have hb:b7q s=false:=c24;have hv:validP s=s.all okB:=by unfold validP;rw[hb];rfl
 refine kQ0 [0] ?_;refine kA1 ?_;refine xG (I0 uu9 Et) ?_;refine kQ1 [0,26,27] ?_;refine B0 [0,26] rfl (fun μ F' h'=>∃ k:Nat,(k<=s.length/\s.all okB=(s.drop k).all okB)/\s.length - k=μ/\F'=[(27,.int .i64 k)]/\h=h') (s.length - 0) [(27,.int .i64 0)] (h0:=h) ?_ Sb ⟨0,⟨by omega,rfl⟩,rfl,rfl,rfl⟩ ?_;exact Su;rintro _ _ _ ⟨k,⟨hk,hJ⟩,rfl,rfl,rfl⟩;refine B2 rfl ?_;refine kQ1 [0,26,27,28] ?_;refine wc (fun c28=>?_) fun c28=>?_
 replace c28:=dT c28;obtain⟨c,hc⟩:=A3 (l:=s) (k:=k) (by omega);have hJ:s.all okB=(okB c&&(s.drop (k+1)).all okB):=by rw[hJ,S7 hc];rfl
 refine kQ0 [0,26,27] ?_;refine kQ2 [0,3,26,27] ?_;refine kA2 ?_;refine xG (H1 uu9 Et Et rfl (by assumption)) ?_;refine xf (E1 Et) (b5h _ _ _) ?_;refine kQ1 [0,26,27,34] ?_;refine wc (fun c34=>?_) fun c34=>?_
 have hn:okB c=false:=by simpa using c34
 refine kQ1 [2] ?_;refine wT h ?_;exact⟨by rw[hv,hJ,hn];rfl,rfl⟩;have hn:okB c=true:=by simpa using c34
 refine kQ0 [0,26,27] ?_;refine kA2 ?_;refine WL.nil (A5 (s.length - (k+1)) [(27,.int .i64 (k+1))] (h'':=h) (by omega) ?_ Su Sb ⟨k+1,⟨by omega,by rw[hJ,hn];rfl⟩,rfl,rfl,rfl⟩);exact Su;replace c28:=dF c28;refine kQ0 [] ?_;refine kQ1 [2] ?_;refine wT h ?_;exact⟨by rw[hv,hJ,List.drop_eq_nil_of_le (by omega)];rfl,rfl⟩
theorem may_ct {m:View} (hg:Glob m) (a:Option Addr) (n c:Nat) (l:List Rw) (h:List Res) (hr:Rd m h a n c 3 (fl I6 l)) (hs:∀ x ∈ l,x.text.length<=140737488355328):CT Tryz.prog 12 [.slice a n c] h m (A4 h (.bool (mayP l))):=by
 have hl:=hr.lenF C6 (by decide);have hmx:=hr.mx;have hle:=hr.le;subst hl;refine CT.body Tryz.call12 Tryz.func12 rfl Tryz.ntmps12 Lb rfl ?_;refine kQ1 [0] ?_;refine kQ3 [0,10] ?_;refine wc (fun c10=>?_) fun c10=>?_
 replace c10:=dT c10;refine kQ1 [2] ?_;refine wT h ?_;exact⟨by unfold mayP;rw[if_pos c10],rfl⟩;replace c10:=dF c10;have hm:mayP l=mayA 0 (-1) 0 l:=by unfold mayP;rw[if_neg c10]
 refine kQ0 [0] ?_;refine kQ3 [0,3,4,5] ?_;refine kQ3 [3,4,5,11,12,13] ?_;refine B0 [11,12] rfl (fun μ F' h'=>∃ k:Nat,∃ no:Int,∃ dp:Int,∃ size:Int,((k<=l.length/\(-1<=dp/\dp<=32)/\(0<=size/\size<=k * 321))/\mayP l=mayA no dp size (l.drop k))/\l.length - k=μ/\F'=[(3,.int .i64 no),(4,.int .i64 dp),(5,.int .i64 size),(13,.int .i64 k)]/\h=h') (l.length - 0) [(3,.int .i64 0),(4,.int .i64 (-1)),(5,.int .i64 0),(13,.int .i64 0)] (h0:=h) ?_ Sb ⟨0,0,-1,0,⟨⟨by omega,by omega,by omega⟩,hm⟩,rfl,rfl,rfl⟩ ?_;exact Su;rintro _ _ _ ⟨k,no,dp,size,⟨⟨hk,hdp,hsz⟩,hJ⟩,rfl,rfl,rfl⟩;refine B2 rfl ?_;refine kQ1 [3,4,5,11,12,13,14] ?_;refine wc (fun c14=>?_) fun c14=>?_
 replace c14:=dT c14;obtain⟨x,hx⟩:=A3 (l:=l) (k:=k) (by omega);have hxs:=hs x (List.mem_of_getElem? hx);rw[b0b hx] at hJ;refine kQ0 [3,4,5,11,12,13] ?_;refine kA2 ?_;refine xW fun b7=>?_
 refine kQ1 [3,4,5,7,11,12,13] ?_;refine a7y ?_;refine kA6 ?_;refine E6 (GU.f rfl rfl) (fun hc=>M5 (Eg hc) Ek (by first | omega | (simp at hc;omega))) Lb ?_;refine zG (fun hc=>PO.min (Eg hc) Ek) ?_;refine kA5 ?_;refine A6 (GU.f rfl rfl) (fun hc=>⟨Ef,(E1 (Eg hc)),b8J hg x.text hxs _⟩) Lb ?_;refine kQ2 [5,7,11,12,13,44] ?_;refine wc (fun c44=>?_) fun c44=>?_
 have hb:a9N no dp x=true:=c44;rw[if_pos hb] at hJ;refine kQ1 [2] ?_;refine wT h ?_;exact⟨by rw[hJ],rfl⟩;have hb:a9N no dp x=false:=c44;rw[hb] at hJ;obtain⟨h1,h2,h3,h4,h5,h6⟩:=badR_no hb;have h7:=(validP_spec h6).2.1;refine kQ0 [5,7,11,12,13] ?_;refine dS [] (.op 0 (.op 1 (.op 2 (.op 3 (.op 4 (.op 5 (.op 6 (.op 7 (.op 8 (.op 9 (.op 10 (.op 11 (.op 12 (.op 13 (.op 14 (.op 15 .nil)))))))))))))))) [16] D7 ?_;refine kA7 ?_;refine yG rfl (a7N Ek Et (by omega)) ?_;refine yG rfl (M5 Et Et (by omega)) ?_;refine kA2 ?_;refine yG rfl (I0 uu9 Et) ?_;refine yG rfl (M5 Et Et (by omega)) ?_;refine yG rfl (M5 Et Ek (by omega)) ?_;refine yG rfl (PO.assign Et) ?_;refine yG rfl (PO.assign Et) ?_;refine SR.nil rfl rfl ?_;refine kQ1 [3,4,5,11,12,13] ?_;refine kA2 ?_
 refine WL.nil (A5 (l.length - (k+1)) [(3,.int .i64 (x.no)),(4,.int .i64 (x.depth)),(5,.int .i64 (size+2 * x.depth+x.text.length+1)),(13,.int .i64 (k+1))] (h'':=h) (by omega) ?_ Su Sb ⟨k+1,x.no,x.depth,size+2 * x.depth+x.text.length+1,⟨⟨by omega,by omega,by omega⟩,hJ⟩,rfl,rfl,rfl⟩);exact Su;replace c14:=dF c14;rw[List.drop_eq_nil_of_le (by omega)] at hJ;refine kQ0 [5] ?_;refine kQ3 [2] ?_;refine wT h ?_;exact⟨by rw[hJ];rfl,rfl⟩
end
end Go.Proofs.YtmhkeomphdddaaaGreatDoor.Ly7
namespace Go.Proofs.YtmhkeomphdddaaaGreatDoor
section
open Go.Eng Go.Pc Go.Sx Go
open Go.Xp hiding B C2
open Go.Ty (Ty Vr Tok eqT tyV I9 B3 B5 T9 zeroK N3 D5)
open Go.Lx (encB C9 lexO)
open Go.Ly (Rw I6 C6 mayP)
abbrev erR (b:Nat) (e:Int):Res:=.pt b (.cells [Value.int .i64 e].toArray 47 (0,0))
abbrev zP:Pr:=p0 0 [] A2 B9 B9 D1
theorem c3t (b0 b1:Nat) (h:List Res) (m:View):a9I Tryz.prog 28 [ptV b0,ptV b1] .returning m h h:=by
 refine a7J Tryz.func28 rfl rfl Tryz.ntmps28 Lb rfl Lb Lb (b2A rfl) rfl ?_;refine kA1 ?_;refine xG (a8s c1C Et rfl) ?_;refine kQ0 [0,1,2,7] ?_;refine wc (fun c7=>?_) fun c7=>?_
 cases c7;refine WC.skip (a7O (h2:=h) (.inr rfl) rfl Sb)
theorem c2l (b0 b1:Nat) (h:List Res) (m:View) (x:Pr) (k e:Int):a9I Tryz.prog 28 [ptV b0,ptV b1] (.panicking [{ v:=wrV e,recovered:=false }]) m (prR b0 x::erR b1 k::h) (prR b0 zP::erR b1 e::h):=by
 refine a7J Tryz.func28 rfl rfl Tryz.ntmps28 Lb rfl Lb Lb b4d (a8o _) ?_;refine kA1 ?_;refine xG (a9z c1C Et rfl) ?_;refine kQ0 [0,1,2,7] ?_;refine wc (fun c7=>?_) fun c7=>?_
 refine kA1 ?_;refine xG (a3A c4e Et) ?_;refine kA3 ?_;refine xW fun b3=>?_
 refine kQ2 [0,1,3,4] ?_;refine kQ2 [0,1,3,14] ?_;refine wc (fun c14=>?_) fun c14=>?_
 cases c14;refine WC.skip (kp [0,1,3] ?_);refine jE ?_;refine WC.take (r:=.pt b0 _) De ?_;refine F7 [3] (.op 0 (.op 1 (.op 2 (.op 3 .nil)))) [4] _ [_] D7 (fun _ _ _ _ _ h=>absurd h.1 (by rintro (q | q) <;> cases q)) [] (by kernel_rfl) ?_;refine yG rfl (PO.build V4 rfl rfl rfl EvP.nil rfl) ?_;refine kA2 ?_;refine SR.store rfl rfl rfl Et Et rfl rfl rfl rfl Up ?_;refine SR.nil rfl rfl ?_;refine kA1 ?_;refine WL.nil (a7O (h2:=prR b0 zP::erR b1 e::h) (.inr rfl) rfl Sb);cases c7
theorem b4n (x y z:Res) (h:List Res):(x::y::z::h).Perm (z::y::x::h):=(List.Perm.swap _ _ _).trans (((List.Perm.swap _ _ _).cons _).trans (List.Perm.swap _ _ _))
abbrev c7p (m:View) (z:Pz) (h:List Res) (v:Value) (h':List Res):Prop:=
 ∃ x bl j e,v=.tuple #[prV x,.int .i64 e]/\h'=psR z j::(bl++h)/\POk m bl x/\((e=0/\a3G z.R=.ok (stP x,j))\/(e≠0/\x=zP/\a3G z.R=.error (e,j)))
theorem c5U {m:View} (hg:Glob m) {z:Pz} (hz:Pok m z) (h:List Res):CT Tryz.prog 13 [ptV z.bp] (psR z 0::h) m (fun v _ h'=>c7p m z h v h'):=by
 have hR:=hz.ok.1;have hrd:=hz.rd.mono Vl (List.nil_sublist h);have hq:a3G z.R=M4 (B1 z.R z.R.length 0 true 0) fun x i=>match z.R[i]? with
  | none=>.ok (x,i)
  | some y=>.error (if (lexO y.text).2.2≠0 then (lexO y.text).2.2 else 110,i):=rfl
 have key:∀ (n:Cx) (F:Fm) (e:Int) (j:Nat) (y:Int) (p:Pr) (b2 b3:Nat),n.ds=[a9G 28 [ptV b2,ptV b3]]->Go.Eng.look F 2=some (ptV b2)->Go.Eng.look F 3=some (ptV b3)->a3G z.R=.error (e,j)->∀ a w,Fr n F a->St m (psR z j::erR b3 y::prR b2 p::h) w ->
  bodyPostD Tryz.prog Tryz.f13 (RQ m (fun v _ h'=>c7p m z h v h')) (.panic [{ v:=wrV e,recovered:=false }]) a w:=fun n F e j y p b2 b3 hds e1 e2 hA a w ha hs=>
  c6F (P:=Tryz.prog) (fn:=Tryz.f13) (h':=psR z j::h) hds Tryz.call28 (c2l b2 b3 (psR z j::h) m p y e) rfl (I4 V4 rfl rfl e1 Me rfl) (Y7 b7l rfl e2 Me rfl) Vl Sb
   ⟨zP,[],j,e,rfl,rfl,b8F _ _ (by decide),.inr ⟨c5O e j hA,rfl,hA⟩⟩ a w ha (hs.perm (b4n _ _ _ _))
 refine CT.bodyD Tryz.call13 Tryz.func13 rfl Tryz.ntmps13 Lb rfl ?_;refine j0 ?_;refine xW fun b2=>?_
 refine xW fun b3=>?_
 refine wn [0,2,3] ?_;refine jE ?_;refine a8d rfl fun ops hG=>?_
 refine WY.po rfl (PO.makeFunc Evs.nil (E2 Et Et)) Lb ?_;refine WY.defer rfl Et ?_;refine kp [0,2,3] ?_;refine kA1 ?_;refine pD (psR z 0) ?_;refine A0 Ef (E3 Et Ek Ek) (c7w hg hz z.R.length 0 0 true _ (by omega) (by omega) (by decide)) Lb (fun v hv hx=>?_) fun v6 h6 hr6=>?_
 ·obtain⟨e,j,hx1,rfl,rfl⟩:=hx
  rw[hx1] at hq;exact key _ _ e j 0 zP b2 b3 rfl rfl rfl hq
 obtain⟨x6,j6,bl6,hM6,hj6,⟨p6,rfl,rfl,hO6⟩,rfl⟩:=hr6;refine WL.perm ((Mv.perm).cons _) ?_;rw[hM6,P6] at hq;refine kA1 ?_;refine wn [0,2,3] ?_;refine jE ?_;refine WC.noPan ?_;refine dS [] (.op 0 (.op 1 (.op 2 (.op 3 (.op 4 (.op 5 (.op 6 (.op 7 (.op 8 .nil))))))))) [9] D7 ?_;refine kA8 ?_;refine yG rfl (W7 a7G Et) ?_;refine SR.nil rfl rfl ?_;refine kQ1 [0,2,3,16] ?_;refine wc (fun c16=>?_) fun c16=>?_
 replace c16:=dT c16;obtain⟨y,hel⟩:=A3 (l:=z.R) (k:=j6) (by omega);rw[hel] at hq;dsimp only at hq;have hop:S5 z.R y.depth j6=if (lexO y.text).2.2≠0 then .error ((lexO y.text).2.2,j6) else .ok (lexO y.text).1:=by
  unfold S5;rw[hel];simp only[ne_eq,not_true_eq_false,if_false]
 refine jE ?_;refine b9i [] (.op 0 (.op 1 (.op 2 (.op 3 (.op 4 (.op 5 (.op 6 (.op 7 (.op 8 (.op 9 (.op 10 (.op 11 .nil)))))))))))) [12] _ [] D7 (by kernel_rfl) ?_;refine kA9 ?_;refine yG rfl (F2 S0.und S0.size S0.posz (Ev.tmp rfl) (Ev.tmp rfl) Rr rfl (q:=j6) (by omega)) ?_;refine kA2 ?_;refine SR.nil rfl rfl ?_;refine pD (psR z j6) ?_;refine A0 Ef (E2 Et Et) (a3y hg hz j6 y.depth _ (by omega)) Lb (fun v hv hx=>?_) fun v29 h29 hr29=>?_
 ·obtain⟨e,j,hx1,rfl,rfl⟩:=hx
  rw[hop] at hx1;split at hx1
  ·rename_i hl
   cases hx1;rw[if_pos hl] at hq;exact fun a w ha hs=>key _ _ _ _ 0 p6 b2 b3 rfl rfl rfl hq a w ha (hs.sub Sb)
  ·cases hx1
 obtain⟨ts29,b29,a29,c29,hM29,rfl,hk29,rfl⟩:=hr29;refine kQ0 [2,3] ?_;refine A0 Ef Evs.nil (I3 _ _) Lb (fun v hv hx=>?_) fun v30 h30 hr30=>?_
 ·obtain⟨rfl,rfl⟩:=hx
  rw[hop] at hM29;split at hM29
  ·cases hM29
  ·rename_i hl
   rw[if_neg hl] at hq;exact fun a w ha hs=>key _ _ _ _ 0 p6 b2 b3 rfl rfl rfl hq a w ha (hs.sub Sb)
 exact hr30.elim;replace c16:=dF c16;rw[List.getElem?_eq_none (by omega)] at hq;dsimp only at hq;refine kQ0 [2,3] ?_;refine kQ3 [2,3] ?_;refine WC.ret (c7h (h':=psR z j6::(bl6++h)) (.inl rfl) rfl Tryz.call28 (c3t _ _ _ _) rfl (I4 V4 rfl rfl rfl Me rfl) (Y7 b7l rfl rfl Me rfl) Vl Sb ?_);exact⟨p6,bl6,j6,0,rfl,rfl,hO6,.inl ⟨rfl,hq⟩⟩
abbrev c7c (m:View) (R:List Rw) (h:List Res) (v:Value) (h':List Res):Prop:=
 ∃ x bl,v=.tuple #[prV x,.int .i64 ((G1 R).2.1:Nat),.int .i64 (G1 R).2.2]/\stP x=(G1 R).1/\POk m bl x/\h'=bl++h
theorem a6v {m:View} (hg:Glob m) (ra:Option Addr) (rc:Nat) (R:List Rw) (h:List Res) (hr:Rd m [] ra R.length rc 3 (fl I6 R)) (ht:∀ x ∈ R,x.text.length<=140737488355328) :
 CT Tryz.prog 5 [.slice ra R.length rc] h m (fun v _ h'=>c7c m R h v h'):=by
 have hq:G1 R=if mayP R then (match a3G R with
  | .ok (x,_)=>(x,0,0)
  | .error (e,i)=>(prM 0 [] A2 [] [] D1 [] [] [] D4,i,e)) else (prM 0 [] A2 [] [] D1 [] [] [] D4,0,2):=rfl
 refine CT.body Tryz.call5 Tryz.func5 rfl Tryz.ntmps5 Lb rfl ?_;refine j0 ?_;refine xW fun b2=>?_
 refine kQ2 [0,2] ?_;refine kA1 ?_;refine xf (E1 Et) (Ly7.may_ct hg ra _ rc R _ (hr.mono Vl (List.nil_sublist _)) ht) ?_;refine kQ1 [0,2,8] ?_;refine wc (fun c8=>?_) fun c8=>?_
 have d8:mayP R=false:=by simpa using c8
 rw[if_neg (H5 d8)] at hq;refine kQ4 [2,3,4] ?_;refine WC.ret (a9J (h':=h) (.inl rfl) rfl (I4 V4 rfl rfl rfl Me rfl) (RV.tmp rfl) (RV.tmp rfl) Vl Sb ?_);exact⟨zP,[],by rw[hq];rfl,by rw[hq];exact U5 _,b8F _ _ (by decide),rfl⟩;have d8:mayP R=true:=by simpa using c8
 rw[if_pos d8] at hq;refine kQ0 [0,2] ?_;refine kA2 ?_;refine xX fun b12=>?_
 refine kQ1 [2,5] ?_;refine kA1 ?_;refine pD (psR ⟨b12,ra,rc,R⟩ 0) ?_;refine xg (E1 Et) (c5U hg (z:=⟨b12,ra,rc,R⟩) (Pok.of hr d8) _) ?_;rintro _ _ ⟨x15,bl15,j15,e15,rfl,rfl,hO15,hA15⟩;refine WL.perm ((Mv.perm).cons _) ?_;refine kQ5 [2,4,5] ?_;refine kQ2 [2,4,5,19] ?_;refine wc (fun c19=>?_) fun c19=>?_
 replace c19:=a1I c19;obtain⟨rfl,hA⟩:x15=zP/\a3G R=.error (e15,j15):=hA15.elim (fun q=>absurd q.1 c19) fun q=>q.2
 rw[hA] at hq;dsimp only at hq;refine jE ?_;refine WC.take (r:=.pt b2 _) De ?_;refine F7 [6] (.op 0 (.op 1 (.op 2 (.op 3 (.op 4 (.op 5 (.op 6 .nil))))))) [7,8] _ [_] D7 (fun _ _ _ _ _ h=>h) [5] (by kernel_rfl) ?_;refine yG rfl (PO.build V4 rfl rfl rfl EvP.nil rfl) ?_;refine kA5 ?_;refine SR.store rfl rfl rfl Et Et rfl rfl rfl rfl Up ?_;refine SR.nil rfl rfl ?_;refine kQ2 [2,3,4] ?_;refine WC.ret (a9J (h':=h) (.inl rfl) rfl (I4 V4 rfl rfl rfl Me rfl) (RV.tmp rfl) (RV.tmp rfl) Vl Sb ?_);exact⟨zP,[],by rw[hq];rfl,by rw[hq];exact U5 _,b8F _ _ (by decide),rfl⟩;replace c19:=a1U c19;have hA:a3G R=.ok (stP x15,j15):=hA15.elim (fun q=>q.2) fun q=>absurd c19 q.1
 rw[hA] at hq;dsimp only at hq;refine kQ0 [2] ?_;refine kQ4 [2,3,4] ?_;refine WC.ret (a9J (h':=bl15++h) (.inl rfl) rfl (I4 V4 rfl rfl rfl Me rfl) (RV.tmp rfl) (RV.tmp rfl) Vl Sb ?_);exact⟨x15,bl15,by rw[hq];rfl,by rw[hq],hO15,rfl⟩
end
section
open Go.Eng Go.Lx Go.Ty
def Pow (m : View) : Prop := ∀ h w, St m h w → Lib.TabIs Tryz.prog w "internal/strconv.uint64pow10" .u64 Lib.pow10Tab
theorem c3k (v:Int) (h:List Res) (m:View) (hp:Pow m) (hv:-9223372036854775808<=v/\v<=9223372036854775807):CT Tryz.prog 259 [.int .i64 v] h m (A4 h (str (Lib.itoa v))):=
 CT.ofGrow Tryz.call259 fun w st=>Tryz.strconv_Itoa v hv.1 hv.2 w (hp h w st)
theorem a8k (t:Tok) (s:B) (h:List Res) (m:View) (hg:Glob m) (hs:s.length < 4294967281):CT Tryz.prog 224 [T9 t,str s] h m (A4 h (.bool (b2i t s))):=by
 refine CT.body Tryz.call224 Tryz.func224 rfl Tryz.ntmps224 Lb rfl ?_;refine j0 ?_;refine xX fun b2=>?_
 refine kQ1 [1,2] ?_;refine kA7 ?_;refine A6 (GU.t rfl rfl) (fun hc=>⟨Ef,(E2 (Eg hc) (Eg hc)),a0W hg s t.text hs _⟩) Lb ?_;refine kQ2 [4] ?_;refine wT h ?_;exact⟨rfl,rfl⟩
theorem a7b {s:B} {k:Nat} (h:k < s.length):(s.drop k).take (k+1 - k)=[s.getD k 0]:=by
 rw[List.drop_eq_getElem_cons h,Nat.add_sub_cancel_left,List.take_succ_cons,List.take_zero,List.getD_eq_getElem?_getD,List.getElem?_eq_getElem h];rfl
theorem c7x (v:Nat):IntKind.u8.wrap (v:Int)=((UInt8.ofNat v).toNat:Int):=by
 rw[UInt8.toNat_ofNat'];unfold IntKind.wrap;simp[IntKind.bits,IntKind.signed]
theorem c6t (v:Nat):a6o .i32 (v:Int) 4=((v / 16:Nat):Int):=by
 unfold a6o;rw[Int.fdiv_eq_ediv_of_nonneg _ (by decide)];simp[IntKind.bits]
theorem c4x {v:Nat} (h:v < 256):b7F .i32 (v:Int) 15=((v % 16:Nat):Int):=by
 have:∀ v,v < 256->b7F .i32 ((v:Nat):Int) 15=((v % 16:Nat):Int):=by decide +kernel
 exact this v h
theorem c0X {v:Nat} (h:v < 256):IntKind.i32.wrap ((v:Int)+1)=((v+1:Nat):Int):=by
 unfold IntKind.wrap;simp[IntKind.bits,IntKind.signed];omega
theorem b9f (v:Nat) (h:List Res) (m:View) (hv:v < 256):CT Tryz.prog 252 [.int .i32 v] h m (A4 h (str (a5x v))):=by
 have hI:=a4F (UInt8.ofNat v) c5F;have hI5:shI v<=4:=hI;refine CT.body Tryz.call252 Tryz.func252 rfl Tryz.ntmps252 Lb rfl ?_;refine kQ1 [0] ?_;refine kA1 ?_;refine xG (PO.conv a3m uu5 Et) ?_;refine WL.val (v':=.int .u8 ((UInt8.ofNat v).toNat:Int)) (congrArg (Value.int .u8) (c7x v)) ?_;refine xf (E2 Ek Et) (CT.argsE rfl (a8I c5F (UInt8.ofNat v) _ _)) ?_;refine WL.val (v':=.int .i64 (shI v)) rfl ?_;refine kQ1 [0,3] ?_;refine kQ3 [0,3,7] ?_;refine wc (fun c7=>?_) fun c7=>?_
 have d7:0<=shI v:=dT c7;obtain⟨k,hk⟩:∃ k:Nat,shI v=k:=⟨(shI v).toNat,by omega⟩;rw[hk];have hk5:k < b2H.length:=by show k < 5;omega
 refine kA3 ?_;refine WL.val (v':=.int .i64 ((k+1:Nat):Int)) (congrArg (Value.int .i64) (by omega)) ?_;refine xG (a0Y (s:=b2H) (l:=k) (u:=k+1) uu9 Ek Et Et rfl rfl (by omega) (by omega)) ?_;refine WL.val (v':=str [b2H.getD k 0]) (congrArg str (a7b hk5)) ?_;refine xG (a0w Ek Et (by simp)) ?_;refine kQ1 [2] ?_;refine wT h ?_;exact⟨by unfold a5x;rw[c7,hk];rfl,rfl⟩;refine kQ7 [0,15] ?_;refine wc (fun c15=>?_) fun c15=>?_
 refine jE ?_;refine dS [] (.op 0 (.op 1 (.op 2 (.op 3 (.op 4 (.op 5 (.op 6 (.op 7 (.op 8 (.op 9 (.op 10 (.op 11 (.op 12 .nil))))))))))))) [13,14] D7 ?_;refine kA1 ?_;refine yG rfl (PO.shr Et Ek (by decide)) ?_;refine SR.val (v':=.int .i32 ((v / 16:Nat):Int)) (congrArg (Value.int .i32) (c6t v)) ?_;refine kA1 ?_;refine yG rfl (PO.shr Et Ek (by decide)) ?_;refine SR.val (v':=.int .i32 ((v / 16:Nat):Int)) (congrArg (Value.int .i32) (c6t v)) ?_;refine yG rfl (P4 Et Ek rfl) ?_;refine SR.val (v':=.int .i32 ((v / 16+1:Nat):Int)) (congrArg (Value.int .i32) (c0X (by omega))) ?_;refine yG rfl (a0Y (s:=O8) (l:=v / 16) (u:=v / 16+1) uu9 Ek Et Et rfl rfl (by omega) (by show _<=16;omega)) ?_;refine SR.val (v':=str [O8.getD (v / 16) 0]) (congrArg str (a7b (by show _ < 16;omega))) ?_;refine yG rfl (a0w Ek Et (by simp)) ?_;refine kA1 ?_;refine yG rfl (P4 Et Ek rfl) ?_
 refine SR.val (v':=.int .i32 ((v % 16:Nat):Int)) (congrArg (Value.int .i32) (c4x hv)) ?_;refine kA1 ?_;refine yG rfl (P4 Et Ek rfl) ?_;refine SR.val (v':=.int .i32 ((v % 16:Nat):Int)) (congrArg (Value.int .i32) (c4x hv)) ?_;refine yG rfl (P4 Et Ek rfl) ?_;refine SR.val (v':=.int .i32 ((v % 16+1:Nat):Int)) (congrArg (Value.int .i32) (c0X (by omega))) ?_;refine yG rfl (a0Y (s:=O8) (l:=v % 16) (u:=v % 16+1) uu9 Ek Et Et rfl rfl (by omega) (by show _<=16;omega)) ?_;refine SR.val (v':=str [O8.getD (v % 16) 0]) (congrArg str (a7b (by show _ < 16;omega))) ?_;refine SR.nil rfl rfl ?_;refine xG (a0w Et Et (by simp)) ?_;refine kQ1 [2] ?_;refine wT h ?_;exact⟨by unfold a5x;rw[c7,c15];rfl,rfl⟩;have hv2:v < 128:=by simp at c15;omega
 refine kQ0 [0] ?_;refine kA1 ?_;refine xG (c2k a3m uu9 Et rfl hv2) ?_;refine kQ1 [2] ?_;refine wT h ?_;exact⟨by unfold a5x;rw[c7,c15];rfl,rfl⟩
theorem c2T {u i:Nat} (hi:i < 8):a6o .u32 (u:Int) (4 * (i:Int))=((u / 16 ^ i:Nat):Int):=by
 unfold a6o;rw[show min (4 * (i:Int)).toNat IntKind.u32.bits=4 * i by show min _ 32=_;omega,Int.fdiv_eq_ediv_of_nonneg _ (Int.le_of_lt (Int.pow_pos (by decide)))];rw[show(16:Nat) ^ i=2 ^ (4 * i) by rw[Nat.pow_mul]];simp
theorem c3q (x:Nat) (hx:x < 4294967296):b7F .u32 (x:Int) 15=((x % 16:Nat):Int):=by
 have e:(BitVec.ofInt 32 (x:Int) &&& BitVec.ofInt 32 15).toNat=x % 16:=by
  rw[BitVec.toNat_and,BitVec.ofInt_natCast,BitVec.toNat_ofNat,Nat.mod_eq_of_lt (by omega),show(BitVec.ofInt 32 15).toNat=2 ^ 4 - 1 from rfl,Nat.and_two_pow_sub_one_eq_mod]
 unfold b7F;rw[show IntKind.u32.bits=32 from rfl,e,a8r (by omega)]
theorem c7M {k j:Nat} {x:UInt8} {r:B} (hj:j=k+1):(bv (35::(List.replicate (k+1) 0++r))).set (0+j * 1) (.int .u8 x.toNat)=bv (35::(List.replicate k 0++(x::r))):=by
 subst hj;rw[Nat.zero_add,Nat.mul_one];have e:∀ (k:Nat),(bv (List.replicate (k+1) 0++r)).set k (.int .u8 x.toNat)=bv (List.replicate k 0++(x::r)):=by
  intro k;induction k with
  | zero=>rfl
  | succ k ih=>
   show _::(bv (List.replicate (k+1) 0++r)).set k _=_;rw[ih];rfl
 show _::(bv (List.replicate (k+1) 0++r)).set k _=_;rw[e];rfl
theorem c00 (v:Int) (b:Bool) (h:List Res) (m:View) (hp:Pow m) (hv:-2147483648<=v/\v<=2147483647):CT Tryz.prog 251 [.int .i32 v,.bool b] h m (A4 h (str (a1J v b))):=by
 obtain⟨u,hu⟩:∃ u:Nat,IntKind.u32.wrap v=u:=⟨(IntKind.u32.wrap v).toNat,by
  have:0<=IntKind.u32.wrap v:=by unfold IntKind.wrap;simp[IntKind.bits,IntKind.signed];omega
  omega⟩
 have hu32:u < 4294967296:=by
  have:IntKind.u32.wrap v < 4294967296:=by unfold IntKind.wrap;simp[IntKind.bits,IntKind.signed];omega
  omega
 refine CT.body Tryz.call251 Tryz.func251 rfl Tryz.ntmps251 Lb rfl ?_;refine kQ1 [0,1] ?_;refine kQ2 [0,8] ?_;refine wc (fun c8=>?_) fun c8=>?_
 have d8:b=false:=by simpa using c8
 subst d8;refine kA1 ?_;refine xG (PO.conv a3m uu3 Et) ?_;refine WL.val (v':=.int .i64 v) (congrArg (Value.int .i64) (by unfold IntKind.wrap;simp[IntKind.bits,IntKind.signed];omega)) ?_;refine xf (E1 Et) (c3k v _ _ hp (by omega)) ?_;refine kQ1 [4] ?_;refine wT h ?_;exact⟨rfl,rfl⟩;have d8:b=true:=by simpa using c8
 subst d8;refine kQ0 [0] ?_;refine xG (a3L b6c rfl rfl rfl Eb (by exact rfl)) ?_;refine xW fun b5=>?_
 refine kQ1 [0,5] ?_;refine kQ1 [0,5,13] ?_;refine B0 [0,5] rfl (fun μ F' h'=>∃ i:Nat,(i<=8)/\8 - i=μ/\F'=[(13,.int .i64 i)]/\.pt b5 (.cells (bv (35::(List.replicate (8 - i) 0++a0G u i))).toArray 305 (0,0))::h=h') (8 - 0) [(13,.int .i64 0)] (h0:=.pt b5 (.cells (bv (35::(List.replicate (8 - 0) 0++a0G u 0))).toArray 305 (0,0))::h) ?_ Sb ⟨0,by omega,rfl,rfl,rfl⟩ ?_;exact Su;rintro _ _ _ ⟨i,hJ,rfl,rfl,rfl⟩;refine B2 rfl ?_;refine kQ1 [0,5,13,14] ?_;refine wc (fun c14=>?_) fun c14=>?_
 replace c14:=dT c14;have hd:u / 16 ^ i % 16 < 16:=Nat.mod_lt _ (by decide);obtain⟨x,hx⟩:=A3 (l:=O8) (k:=u / 16 ^ i % 16) hd;have hx':O8.getD (u / 16 ^ i % 16) 0=x:=by rw[List.getD_eq_getElem?_getD,hx];rfl
 have hle:u / 16 ^ i < 4294967296:=Nat.lt_of_le_of_lt (Nat.div_le_self _ _) hu32;refine kQ0 [0,5,13] ?_;refine kQ2 [0,5,6,13] ?_;refine kA1 ?_;refine xG (Q5 Ek Et (by omega)) ?_;refine kA1 ?_;refine xG (PO.conv a3m b2M Et) ?_;refine WL.val (v':=.int .u32 (u:Int)) (congrArg (Value.int .u32) hu) ?_;refine kA1 ?_;refine xG (a7N Ek Et (by omega)) ?_;refine xG (PO.shr Et Et (by omega)) ?_;refine WL.val (v':=.int .u32 ((u / 16 ^ i:Nat):Int)) (congrArg (Value.int .u32) (c2T (by omega))) ?_;refine kA1 ?_;refine WL.val (v':=.int .u32 ((u / 16 ^ i % 16:Nat):Int)) (congrArg (Value.int .u32) (c3q _ hle)) ?_;refine xG (H1 (l:=O8) (q:=u / 16 ^ i % 16) uu9 Ek Et rfl hx) ?_;refine xG (b6s (sz:=1) b6c rfl Et Et (q:=8 - i) (by omega) (by omega)) ?_;refine b8j (cs:=bv (35::(List.replicate (8 - i) 0++a0G u i))) rfl Et Et rfl rfl (by rw[b1I];simp[a5v];omega) Up ?_
 refine c4Z (cs:=(bv (35::(List.replicate (8 - i) 0++a0G u i))).set (0+(8 - i) * 1) _) (cs':=bv (35::(List.replicate (8 - (i+1)) 0++a0G u (i+1)))) (by rw[b4w,hx',show 8 - i=8 - (i+1)+1 by omega];exact c7M rfl) Up ?_;refine kQ0 [0,5,13] ?_;refine kA2 ?_;refine WL.nil (A5 (8 - (i+1)) [(13,.int .i64 (i+1))] (h'':=.pt b5 (.cells (bv (35::(List.replicate (8 - (i+1)) 0++a0G u (i+1)))).toArray 305 (0,0))::h) (by omega) ?_ Su Sb ⟨i+1,by omega,rfl,rfl,rfl⟩);exact Su;replace c14:=dF c14;have e:i=8:=by omega
 subst e;refine kQ0 [5] ?_;refine xG (b3N b6c rfl (by decide) Et) ?_;refine xG (c0j (bs:=35::a0G u 8) c2B uu5 uu9 Et (Rd.ofPt rfl (by decide) (List.Mem.head _))) ?_;refine kQ1 [4] ?_;refine wT h ?_;exact⟨by unfold a1J;rw[hu];rfl,rfl⟩
end
section
open Go.Eng Go.Lx Go.Ty
theorem c1X (t:Tok) (h:List Res) (m:View) (hp:Pow m) (hn:-2147483648<=t.n/\t.n<=2147483647) (hk:F4 t=true):CT Tryz.prog 226 [T9 t] h m (A4 h (str (a1l t))):=by
 refine CT.body Tryz.call226 Tryz.func226 rfl Tryz.ntmps226 Lb rfl ?_;refine j0 ?_;refine xX fun b1=>?_
 refine kQ1 [1] ?_;refine kQ2 [1,4] ?_;refine kQ2 [1,4,5] ?_;refine wc (fun c5=>?_) fun c5=>?_
 refine kA5 ?_;refine xf (E2 Et Et) (c00 t.n _ _ _ hp hn) ?_;refine kQ1 [2] ?_;refine wT h ?_;exact⟨by unfold a1l;rw[c5];rfl,rfl⟩;refine kQ2 [1,13] ?_;refine wc (fun c13=>?_) fun c13=>?_
 have hb:0<=t.n/\t.n < 256:=by
  have e:t.kind=4:=eq_of_beq c13;unfold F4 at hk;rw[e] at hk;simp at hk;omega
 have hsl:=b0Q t.n.toNat;refine kA2 ?_;refine WL.val (v':=.int .i32 (t.n.toNat:Int)) (congrArg (Value.int .i32) (by omega)) ?_;refine xf (E1 Et) (b9f t.n.toNat _ _ (by omega)) ?_;refine xG (a0w Ek Et (by simp;omega)) ?_;refine xG (a0w Et Ek (by simp;omega)) ?_;refine kQ1 [2] ?_;refine wT h ?_;exact⟨by unfold a1l;rw[c5,c13];rfl,rfl⟩;refine kQ0 [1] ?_;refine kQ3 [2] ?_;refine wT h ?_;exact⟨by unfold a1l;rw[c5,c13];rfl,rfl⟩
def TkL (l:List Tok):Prop:=∀ x,x ∈ l->(-2147483648<=x.n/\x.n<=2147483647)/\x.text.length<=140737488355328
theorem c3a {l:List Tok} {i:Nat} {x:Tok} (hx:l[i]?=some x) (h:F4 x=false):l.any (fun t=>!F4 t)=true:=
 List.any_eq_true.2 ⟨x,List.mem_of_getElem? hx,by rw[h];rfl⟩
theorem c1h {l:List Tok} {i:Nat} {x:Tok} (hx:l[i]?=some x) (h:F4 x=true) (hJ:(l.take i).any (fun t=>!F4 t)=false):(l.take (i+1)).any (fun t=>!F4 t)=false:=by
 rw[List.take_add_one,hx,List.any_append,hJ];simp[h]
theorem c5q {l:List Tok} {i:Nat} (hi:i < l.length) (x:Tok):a9Q (a3S none (l.take i)) x=(decide ((i:Int) > 0)&&gap (l.getD (i - 1) zeroK) x):=by
 cases i with
 | zero=>rfl
 | succ j=>
  have hj:j < l.length:=by omega
  rw[a8a l j none l[j] (List.getElem?_eq_getElem hj),Nat.add_sub_cancel,List.getD_eq_getElem?_getD,List.getElem?_eq_getElem hj];have:decide (((j+1:Nat):Int) > 0)=true:=by simp
  rw[this];rfl
theorem b8g (a:Option Addr) (k c:Nat) (l:List Tok) (h:List Res) (m:View) (hg:Glob m) (hp:Pow m) (hs:Rd m h a k c 4 (fl B3 l)) (hT:TkL l) :
 CT Tryz.prog 172 [.slice a k c] h m (A4 h (.tuple #[str (textO l).1,.int .i64 (textO l).2])):=by
 have hl:=hs.lenF B5 (by decide);subst hl;have hmx:=hs.mx;have hle:=hs.le;have hq:∀ n:Nat,n < l.length->l[n]?=some (l.getD n zeroK):=fun n hn=>by rw[List.getD_eq_getElem?_getD,List.getElem?_eq_getElem hn];rfl
 refine CT.body Tryz.call172 Tryz.func172 rfl Tryz.ntmps172 Lb rfl ?_;refine kQ2 [0] ?_;refine xG (PO.assign Ef) ?_;refine kQ0 [0,4] ?_;refine kQ3 [0,4,10,11,12] ?_;refine B0 [0,4,10,11] rfl (fun μ F' h'=>∃ i:Nat,(i<=l.length/\(l.take i).any (fun t=>!F4 t)=false)/\l.length - i=μ/\F'=[(12,.int .i64 i)]/\h=h') (l.length - 0) [(12,.int .i64 0)] (h0:=h) ?_ Sb ⟨0,⟨by omega,rfl⟩,rfl,rfl,rfl⟩ ?_;exact Su;rintro _ _ _ ⟨i,⟨hi,hJ⟩,rfl,rfl,rfl⟩;refine B2 rfl ?_;refine kQ1 [0,4,10,11,12,13] ?_;refine wc (fun c13=>?_) fun c13=>?_
 replace c13:=dT c13;obtain⟨x,hx⟩:=A3 (l:=l) (k:=i) (by omega);have hxT:=hT x (List.mem_of_getElem? hx);refine kQ0 [0,4,10,11,12] ?_;refine kA2 ?_;refine xW fun b6=>?_
 refine kQ1 [0,4,6,10,11,12] ?_;refine kA1 ?_;refine xf (E1 Et) (b3S x _ _ hg hxT.2) ?_;refine kQ1 [0,4,10,11,12,18] ?_;refine wc (fun c18=>?_) fun c18=>?_
 have d18:F4 x=false:=by simpa using c18
 have hO:=b83 (c3a hx d18);refine kQ2 [2,3] ?_;refine w2 h ?_;exact⟨by rw[hO],rfl⟩;have d18:F4 x=true:=by simpa using c18
 have hJ2:=c1h hx d18 hJ;refine kQ0 [0,4,10,11,12] ?_;refine kA2 ?_;refine WL.nil (A5 (l.length - (i+1)) [(12,.int .i64 (i+1))] (h'':=h) (by omega) ?_ Su Sb ⟨i+1,⟨by omega,hJ2⟩,rfl,rfl,rfl⟩);exact Su;replace c13:=dF c13;rw[List.take_of_length_le (by omega)] at hJ;have hall:∀ x,x ∈ l->F4 x=true:=fun x hx=>by
  have:=List.any_eq_false.1 hJ x hx;simpa using this
 refine kQ0 [0,4] ?_;refine kQ1 [0,4,7] ?_;refine kQ3 [0,4,7,20,21,22] ?_;refine B0 [0,4,20,21] rfl (fun μ F' h'=>∃ i:Nat,∃ s:B,((i<=l.length/\s.length<=256)/\s=textL none (l.take i))/\l.length - i=μ/\F'=[(7,str s),(22,.int .i64 i)]/\h=h') (l.length - 0) [(7,str ([])),(22,.int .i64 0)] (h0:=h) ?_ Sb ⟨0,[],⟨⟨by omega,by decide⟩,rfl⟩,rfl,rfl,rfl⟩ ?_;exact Su;rintro _ _ _ ⟨i,s,⟨⟨hi,hs256⟩,hS⟩,rfl,rfl,rfl⟩;refine B2 rfl ?_;refine kQ1 [0,4,7,20,21,22,23] ?_;refine wc (fun c23=>?_) fun c23=>?_
 replace c23:=dT c23;obtain⟨x,hx⟩:=A3 (l:=l) (k:=i) (by omega);have hxT:=hT x (List.mem_of_getElem? hx);have hxK:=hall x (List.mem_of_getElem? hx);have hgap:=c5q (l:=l) (i:=i) (by omega) x;have hsn:=b5B none hx;have hxl:=b7h hxT.1 hxT.2;generalize hy:l.getD (i - 1) zeroK=y at hgap;have hqy:0 < i->l[i - 1]?=some y:=fun h0=>by rw[hq (i - 1) (by omega),hy]
 refine kQ0 [0,4,7,20,21,22] ?_;refine kA3 ?_;refine xW fun b9=>?_
 refine kQ2 [0,4,7,8,9,20,21,22] ?_;refine kA4 ?_;refine zG (fun _=>pA H9) ?_;refine A6 (GU.t rfl rfl) (fun hc=>⟨(W1 rfl hc),(E2 (W1 rfl hc) Ek),a8k x c1F _ _ hg (by decide)⟩) Lb ?_;refine kA6 ?_;refine E6 (GU.t rfl rfl) (fun hc=>Q5 (Eg hc) Ek (by first | omega | (simp at hc;omega))) Lb ?_;refine E6 (GU.t rfl rfl) (fun hc=>F2 A7.und A7.size A7.posz (Eg hc) (Eg hc) Rr (q:=i - 1) (by simp at hc;omega) (by simp at hc;omega)) Lb ?_;refine E6 (GU.t rfl rfl) (fun hc=>a4Z H9 rfl rfl B5 Rr (Eg hc) (hqy (by simp at hc;omega)) rfl rfl (Nat.succ_pos _)) Lb ?_;refine A6 (GU.t rfl rfl) (fun hc=>⟨(W1 rfl hc),(E2 (W1 rfl hc) Ek),a8k y b5J _ _ hg (by decide)⟩) Lb ?_;refine kA5 ?_;refine E6 (GU.t rfl rfl) (fun hc=>Q5 (Eg hc) Ek (by first | omega | (simp at hc;omega))) Lb ?_
 refine E6 (GU.t rfl rfl) (fun hc=>F2 A7.und A7.size A7.posz (Eg hc) (Eg hc) Rr (q:=i - 1) (by simp at hc;omega) (by simp at hc;omega)) Lb ?_;refine E6 (GU.t rfl rfl) (fun hc=>F6 H9 rfl (Nat.ne_of_beq_eq_false rfl) B5 (Nat.succ_pos _) Rr (hqy (by simp at hc;omega)) (Eg hc)) Lb ?_;refine E6 (GU.t rfl rfl) (fun hc=>G4 a7t rfl B5 Rr (Eg hc) (hqy (by simp at hc;omega)) rfl) Lb ?_;refine kA3 ?_;refine zG (fun _=>pA H9) ?_;refine A6 (a3M rfl rfl) (fun hc=>⟨(W1 rfl hc),(E2 (W1 rfl hc) Ek),a8k x b5J _ _ hg (by decide)⟩) Lb ?_;refine kA1 ?_;refine zG (fun hc=>a1Z hc rfl rfl) ?_;refine kP1 [0,4,7,9,20,21,22,59] ?_;refine I1 KKh [0,4,9,20,21,22] rfl (fun F' h'=>∃ u:B,(u=s++sep (a9Q (a3S none (l.take i)) x)/\u.length<=257)/\F'=[(7,str u)]/\.pt b9 (.cells (B3 x).toArray 120 (0,0))::h=h') ?_ ?_;refine jE ?_;refine wc (fun c59=>?_) fun c59=>?_
 have d59:a9Q (a3S none (l.take i)) x=true:=by rw[hgap];simpa [gap,Bool.and_assoc] using c59
 refine kA1 ?_;refine xG (a0w Et Ek (by simp;omega)) ?_;refine kA1 ?_;refine WL.nil (D0 [(7,str (s++[32]))] (h'':=.pt b9 (.cells (B3 x).toArray 120 (0,0))::h) ?_ Su Sb ⟨s++[32],⟨by rw[d59];rfl,by rw[List.length_append,List.length_singleton];omega⟩,rfl,rfl⟩);exact Su;have d59:a9Q (a3S none (l.take i)) x=false:=by rw[hgap];simpa [gap,Bool.and_assoc] using c59
 refine WC.skip (D0 [(7,str s)] (h'':=.pt b9 (.cells (B3 x).toArray 120 (0,0))::h) ?_ Su Sb ⟨s,⟨by rw[d59];exact(List.append_nil s).symm,by omega⟩,rfl,rfl⟩);exact Su;rintro _ _ ⟨u,⟨hu,hul⟩,rfl,rfl⟩;refine B2 rfl ?_;refine kA2 ?_;refine xf (E1 Et) (c1X x _ _ hp hxT.1 hxK) ?_;refine xG (a0w Et Et (by omega)) ?_;refine kQ1 [0,4,7,20,21,22] ?_;refine kA1 ?_;refine xG (I0 uu9 Et) ?_;refine kQ1 [0,4,7,20,21,22,68] ?_;refine wc (fun c68=>?_) fun c68=>?_
 have hlong:256 < (u++a1l x).length:=by have:=of_decide_eq_true c68;omega
 have hO:=b4Y hJ (i:=i+1) (by rw[hsn,<- hS,<- List.append_assoc,<- hu];exact hlong);refine kQ2 [2,3] ?_;refine w2 h ?_;exact⟨by rw[hO],rfl⟩;have hshort:(u++a1l x).length<=256:=by have:=of_decide_eq_false c68;omega
 refine kQ0 [0,4,7,20,21,22] ?_;refine kA2 ?_;refine WL.nil (A5 (l.length - (i+1)) [(7,str (u++a1l x)),(22,.int .i64 (i+1))] (h'':=h) (by omega) ?_ Su Sb ⟨i+1,u++a1l x,⟨⟨by omega,hshort⟩,by rw[hsn,<- hS,<- List.append_assoc,<- hu]⟩,rfl,rfl,rfl⟩);exact Su;replace c23:=dF c23;rw[List.take_of_length_le (by omega)] at hS;have hO:=c1P hJ (by rw[<- hS];exact hs256);refine kQ0 [7] ?_;refine kQ3 [2,3] ?_;refine w2 h ?_;exact⟨by rw[hO,hS],rfl⟩
end
section
open Go.Eng Go.Pc Go.Sx Go
open Go.Xp hiding B C2
open Go.Ty (Ty Vr Tok eqT tyV I9 B3 B5 T9 zeroK N3 D5)
open Go.Lx (encB C9 textO)
open Go.Ly (Rw I6 C6)
abbrev OwT (h:List Res) (l:List Tok) (v:Value) (h':List Res):Prop:=b4N B3 120 4 h l v h'
theorem a1V (s:B) (h:List Res) (m:View):CT Tryz.prog 161 [str s] h m (fun v _ h'=>OwT h [O9 s] v h'):=by
 refine CT.body Tryz.call161 Tryz.func161 rfl Tryz.ntmps161 Lb rfl ?_;refine kQ1 [0] ?_;refine kA2 ?_;refine xY A7 Eb fun b5=>?_
 refine a3U (k:=1) (sz:=4) (cs:=fl B3 [O9 s]) rfl (by decide) Up ?_;refine kQ1 [2] ?_;refine wT (.row (.slice (some ⟨b5,0,none⟩) 1 1) 120 4 1 (fl B3 [O9 s])::h) ?_;exact⟨_,_,1,rfl,rfl,rfl⟩
theorem C4 {m:View} (hg:Glob m) (a:Option Addr) (k c:Nat) (l:List B) (h:List Res) (hs:Rd m h a k c 1 (fl encB l)) (hl:k<=1000) (hw:∀ x ∈ l,x.length<=140737488355328) :
 CT Tryz.prog 107 [.slice a k c] h m (fun v _ h'=>OwT h (l.map A1) v h'):=by
 have hlen:=hs.lenF C9 (by decide);subst hlen;refine CT.body Tryz.call107 Tryz.func107 rfl Tryz.ntmps107 Lb rfl ?_;refine kQ1 [0] ?_;refine WL.addNil 120 4 ?_;refine kQ1 [0,3] ?_;refine kQ3 [3,6,7,8] ?_;refine B0 [6,7] rfl (fun μ F' h'=>∃ a3:Option Addr,∃ c3:Nat,∃ r:List Tok,∃ j:Nat,((j<=l.length/\r.length=j)/\r=(l.take j).map A1)/\l.length - j=μ/\F'=[(3,.slice a3 r.length c3),(8,.int .i64 j)]/\.row (.slice a3 r.length c3) 120 4 r.length (fl B3 r)::h=h') (l.length - 0) [(3,.slice none ([]).length 0),(8,.int .i64 0)] (h0:=.row (.slice none ([]).length 0) 120 4 ([]).length (fl B3 ([]))::h) ?_ Sb ⟨none,0,[],0,⟨⟨by omega,rfl⟩,rfl⟩,rfl,rfl,rfl⟩ ?_;exact Su;rintro _ _ _ ⟨a3,c3,r,j,⟨⟨hj,hr⟩,hJ⟩,rfl,rfl,rfl⟩;refine B2 rfl ?_;refine kQ1 [3,6,7,8,9] ?_;refine wc (fun c9=>?_) fun c9=>?_
 replace c9:=dT c9;obtain⟨s,hx⟩:=A3 (l:=l) (k:=j) (by omega);have htk:(l.take (j+1)).map A1=(l.take j).map A1++[A1 s]:=by rw[a2y hx,List.map_append];rfl
 have hsw:=hw s (List.mem_of_getElem? hx);refine kQ0 [3,6,7,8] ?_;refine kQ3 [3,5,6,7,8] ?_;refine kA1 ?_;refine xf (E1 Et) (a79 s _ _ hg hsw) ?_;refine kQ0 [3,5,6,7,8,13] ?_;refine wc (fun c13=>?_) fun c13=>?_
 have hws:A1 s=⟨2,0,s,0⟩:=by unfold A1;rw[if_pos c13]
 have hln:(r++[A1 s]).length=r.length+1:=List.length_append;refine kA2 ?_;refine xf (E1 Et) (K4 _ _ _) ?_;refine xY A7 Eb fun b17=>?_
 rw[<- hws];refine xD A7 (Ev.tmp rfl) (Ev.tmp rfl) (show r.length+1=(r++[A1 s]).length by simp) (F5 (enc:=B3) _ (A1 s)) fun a18 c18=>?_
 refine kQ1 [3,6,7,8] ?_;refine kA2 ?_;refine WL.nil (A5 (l.length - (j+1)) [(3,.slice a18 (r++[A1 s]).length c18),(8,.int .i64 (j+1))] (h'':=.row (.slice a18 (r++[A1 s]).length c18) 120 4 (r++[A1 s]).length (fl B3 (r++[A1 s]))::h) (by omega) ?_ Su Sb ⟨a18,c18,r++[A1 s],j+1,⟨⟨by omega,by omega⟩,by rw[htk,hJ]⟩,rfl,rfl,rfl⟩);exact Su;have hws:A1 s=⟨5,0,s,0⟩:=by unfold A1;rw[if_neg (H5 c13)]
 have hln:(r++[A1 s]).length=r.length+1:=List.length_append;refine kA2 ?_;refine xf (E1 Et) (H2 _ _ _) ?_;refine xY A7 Eb fun b22=>?_
 rw[<- hws];refine xD A7 (Ev.tmp rfl) (Ev.tmp rfl) (show r.length+1=(r++[A1 s]).length by simp) (F5 (enc:=B3) _ (A1 s)) fun a23 c23=>?_
 refine kQ1 [3,6,7,8] ?_;refine kA2 ?_;refine WL.nil (A5 (l.length - (j+1)) [(3,.slice a23 (r++[A1 s]).length c23),(8,.int .i64 (j+1))] (h'':=.row (.slice a23 (r++[A1 s]).length c23) 120 4 (r++[A1 s]).length (fl B3 (r++[A1 s]))::h) (by omega) ?_ Su Sb ⟨a23,c23,r++[A1 s],j+1,⟨⟨by omega,by omega⟩,by rw[htk,hJ]⟩,rfl,rfl,rfl⟩);exact Su;replace c9:=dF c9;rw[List.take_of_length_le (by omega)] at hJ;subst hJ;refine kQ0 [3] ?_;refine kQ2 [2] ?_;refine wT (.row (.slice a3 (l.map A1).length c3) 120 4 (l.map A1).length (fl B3 (l.map A1))::h) ?_;exact⟨_,_,_,rfl,rfl,rfl⟩
theorem J2 {m:View} (hg:Glob m) (e:Ex) (h:List Res) (hE:EOk m h e):CT Tryz.prog 163 [exV e] h m (fun v _ h'=>OwT h (E5 e) v h'):=by
 refine CT.body Tryz.call163 Tryz.func163 rfl Tryz.ntmps163 Lb rfl ?_;refine j0 ?_;refine xX fun b1=>?_
 refine kQ1 [1] ?_;refine kA1 ?_;refine xg (E1 Et) (c2M hg e _ (hE.t.mono Sb) hE.w) ?_;rintro _ _ ⟨a7,c7,rfl,rfl⟩;refine kQ5 [3] ?_;refine kQ2 [2] ?_;refine wT (.row (.slice a7 (E5 e).length c7) 120 4 (E5 e).length (fl B3 (E5 e))::h) ?_;exact⟨_,_,_,rfl,rfl,rfl⟩
theorem a1A {m:View} (hg:Glob m) (t:Ty) (h:List Res) (hs:t.proto.length<=9223372036854775807):CT Tryz.prog 162 [tyV t] h m (fun v _ h'=>OwT h (L5 t) v h'):=by
 refine CT.body Tryz.call162 Tryz.func162 rfl Tryz.ntmps162 Lb rfl ?_;refine j0 ?_;refine xX fun b1=>?_
 refine kQ1 [1] ?_;refine kA1 ?_;refine xg (E1 Et) (Ty9.tokens_ct t _ _ hg hs) ?_;rintro _ _ ⟨a7,c7,rfl,rfl⟩;refine kQ5 [3] ?_;refine kQ2 [2] ?_;refine wT (.row (.slice a7 (L5 t).length c7) 120 4 (L5 t).length (fl B3 (L5 t))::h) ?_;exact⟨_,_,_,rfl,rfl,rfl⟩
theorem b2C {m:View} (hg:Glob m) (k:Int) (h:List Res):CT Tryz.prog 167 [.int .u8 k] h m (fun v _ h'=>OwT h (a0Z k) v h'):=by
 refine CT.body Tryz.call167 Tryz.func167 rfl Tryz.ntmps167 Lb rfl ?_;refine kQ1 [0] ?_;refine kA2 ?_;refine xg (E1 Et) (a1A hg ⟨k,0,0,[]⟩ _ (Nat.zero_le _)) ?_;rintro _ _ ⟨a5,c5,k5,hk5,rfl,rfl⟩;refine kQ1 [2] ?_;refine wT (.row (.slice a5 k5 c5) 120 4 k5 (fl B3 (a0Z k))::h) ?_;exact⟨_,_,_,hk5,rfl,rfl⟩
theorem a3c {m:View} (q:FuncId) (f:Ex->List Tok) (sep:B) (a:Option Addr) (k c:Nat) (l:List Ex) (h:List Res) (hs:Rd m h a k c 6 (fl exE l)) (hk:k<=3000) (hb:∀ x ∈ l,(f x).length<=3000)
 (ht:∀ x ∈ l,∀ h',h.Sublist h'->CT Tryz.prog q [exV x] h' m (fun v _ h2=>OwT h' (f x) v h2)) :
 CT Tryz.prog 171 [.slice a k c,str sep,.func (.func q) #[] #[]] h m (fun v _ h'=>OwT h (D2 sep f l) v h'):=by
 have hlen:=hs.lenF a4y (by decide);subst hlen;refine CT.body Tryz.call171 Tryz.func171 rfl Tryz.ntmps171 Lb rfl ?_;refine kQ1 [0,1,2] ?_;refine WL.addNil 120 4 ?_;refine kQ1 [0,1,2,7] ?_;refine kQ3 [1,2,7,10,11,12] ?_;refine B0 [1,2,10,11] rfl (fun μ F' h'=>∃ a7:Option Addr,∃ c7:Nat,∃ r:List Tok,∃ j:Nat,((j<=l.length/\r.length<=j * 3001)/\r=D2 sep f (l.take j))/\l.length - j=μ/\F'=[(7,.slice a7 r.length c7),(12,.int .i64 j)]/\.row (.slice a7 r.length c7) 120 4 r.length (fl B3 r)::h=h') (l.length - 0) [(7,.slice none ([]).length 0),(12,.int .i64 0)] (h0:=.row (.slice none ([]).length 0) 120 4 ([]).length (fl B3 ([]))::h) ?_ Sb ⟨none,0,[],0,⟨⟨by omega,by simp⟩,rfl⟩,rfl,rfl,rfl⟩ ?_;exact Su;rintro _ _ _ ⟨a7,c7,r,j,⟨⟨hj,hr⟩,hJ⟩,rfl,rfl,rfl⟩;refine B2 rfl ?_;refine kQ1 [1,2,7,10,11,12,13] ?_;refine wc (fun c13=>?_) fun c13=>?_
 replace c13:=dT c13;obtain⟨x,hx⟩:=A3 (l:=l) (k:=j) (by omega);have hxm:=List.mem_of_getElem? hx;have hfx:=hb x hxm;have htk:=a2y hx;have h3:j * 3001<=9000000:=by omega
 refine kQ0 [1,2,7,10,11,12] ?_;refine kA3 ?_;refine xW fun b9=>?_
 refine kQ2 [1,2,7,8,9,10,11,12] ?_;refine kP2 [1,2,7,9,10,11,12,18] ?_;refine I1 KKh [1,2,9,10,11,12] rfl (fun F' h'=>∃ a8:Option Addr,∃ c8:Nat,∃ r2:List Tok,(r2.length<=r.length+1/\r2++f x=D2 sep f (l.take (j+1)))/\F'=[(7,.slice a8 r2.length c8)]/\.pt b9 (.cells (exE x).toArray 29 (0,0))::.row (.slice a8 r2.length c8) 120 4 r2.length (fl B3 r2)::h=h') ?_ ?_;refine jE ?_;refine wc (fun c18=>?_) fun c18=>?_
 replace c18:=dT c18;have hln:(r++[(⟨5,0,sep,0⟩:Tok)]).length=r.length+1:=List.length_append;refine kA2 ?_;refine xf (E1 Et) (H2 _ _ _) ?_;refine xY A7 Eb fun b22=>?_
 refine xD A7 (Ev.tmp rfl) (Ev.tmp rfl) (show r.length+1=(r++[(⟨5,0,sep,0⟩:Tok)]).length by simp) (F5 (enc:=B3) _ (⟨5,0,sep,0⟩)) fun a23 c23=>?_
 refine kA1 ?_;refine WL.nil (D0 [(7,.slice a23 (r++[(⟨5,0,sep,0⟩:Tok)]).length c23)] (h'':=.pt b9 (.cells (exE x).toArray 29 (0,0))::.row (.slice a23 (r++[(⟨5,0,sep,0⟩:Tok)]).length c23) 120 4 (r++[(⟨5,0,sep,0⟩:Tok)]).length (fl B3 (r++[(⟨5,0,sep,0⟩:Tok)]))::h) ?_ Su Sb ⟨a23,c23,r++[(⟨5,0,sep,0⟩:Tok)],⟨by omega,by rw[htk,a1N sep f _ x (by intro q;have:=congrArg List.length q;rw[List.length_take] at this;simp only[List.length_nil] at this;omega),<- hJ,List.append_assoc];rfl⟩,rfl,rfl⟩);exact Su;replace c18:=dF c18;have hj0:j=0:=by omega
 subst hj0;have hr0:r=[]:=hJ;subst hr0;refine WC.skip (D0 [(7,.slice a7 ([]).length c7)] (h'':=.pt b9 (.cells (exE x).toArray 29 (0,0))::.row (.slice a7 ([]).length c7) 120 4 ([]).length (fl B3 ([]))::h) ?_ Su Sb ⟨a7,c7,[],⟨by simp,by rw[htk];rfl⟩,rfl,rfl⟩);exact Su;rintro _ _ ⟨a8,c8,r2,⟨hr2,hJ2⟩,rfl,rfl⟩;refine B2 rfl ?_;refine kA3 ?_;refine F8 (Ev.tmp rfl) (E1 (Ev.tmp rfl)) (ht x hxm _ Sb) Lb ?_;rintro _ _ ⟨a27,c27,k27,e27,rfl,rfl⟩;refine kR a27 fun p27 q27 r27=>?_
 have hln:(r2++f x).length=r2.length+k27:=by rw[List.length_append,e27]
 refine xD A7 (Ev.tmp rfl) (Ev.tmp rfl) (show r2.length+k27=(r2++f x).length from hln.symm) (a3d (enc:=B3) r2 (f x)).symm fun a28 c28=>?_
 refine kQ1 [1,2,7,10,11,12] ?_;refine kA2 ?_;refine WL.nil (A5 (l.length - (j+1)) [(7,.slice a28 (r2++f x).length c28),(12,.int .i64 (j+1))] (h'':=.row (.slice a28 (r2++f x).length c28) 120 4 (r2++f x).length (fl B3 (r2++f x))::h) (by omega) ?_ Su Sb ⟨a28,c28,r2++f x,j+1,⟨⟨by omega,by omega⟩,hJ2⟩,rfl,rfl,rfl⟩);exact Su;replace c13:=dF c13;rw[List.take_of_length_le (by omega)] at hJ;subst hJ;refine kQ0 [7] ?_;refine kQ2 [6] ?_;refine wT (.row (.slice a7 (D2 sep f l).length c7) 120 4 (D2 sep f l).length (fl B3 (D2 sep f l))::h) ?_;exact⟨_,_,_,rfl,rfl,rfl⟩
theorem b71 {m:View} (q:FuncId) (f:Fo->List Tok) (sep:B) (a:Option Addr) (k c:Nat) (l:List Fo) (h:List Res) (hs:Rd m h a k c 6 (fl foE l)) (hk:k<=3000) (hb:∀ x ∈ l,(f x).length<=3000)
 (ht:∀ x ∈ l,∀ h',h.Sublist h'->CT Tryz.prog q [foV x] h' m (fun v _ h2=>OwT h' (f x) v h2)) :
 CT Tryz.prog 164 [.slice a k c,str sep,.func (.func q) #[] #[]] h m (fun v _ h'=>OwT h (D2 sep f l) v h'):=by
 have hlen:=hs.lenF a4w (by decide);subst hlen;refine CT.body Tryz.call164 Tryz.func164 rfl Tryz.ntmps164 Lb rfl ?_;refine kQ1 [0,1,2] ?_;refine WL.addNil 120 4 ?_;refine kQ1 [0,1,2,7] ?_;refine kQ3 [1,2,7,10,11,12] ?_;refine B0 [1,2,10,11] rfl (fun μ F' h'=>∃ a7:Option Addr,∃ c7:Nat,∃ r:List Tok,∃ j:Nat,((j<=l.length/\r.length<=j * 3001)/\r=D2 sep f (l.take j))/\l.length - j=μ/\F'=[(7,.slice a7 r.length c7),(12,.int .i64 j)]/\.row (.slice a7 r.length c7) 120 4 r.length (fl B3 r)::h=h') (l.length - 0) [(7,.slice none ([]).length 0),(12,.int .i64 0)] (h0:=.row (.slice none ([]).length 0) 120 4 ([]).length (fl B3 ([]))::h) ?_ Sb ⟨none,0,[],0,⟨⟨by omega,by simp⟩,rfl⟩,rfl,rfl,rfl⟩ ?_;exact Su;rintro _ _ _ ⟨a7,c7,r,j,⟨⟨hj,hr⟩,hJ⟩,rfl,rfl,rfl⟩;refine B2 rfl ?_;refine kQ1 [1,2,7,10,11,12,13] ?_;refine wc (fun c13=>?_) fun c13=>?_
 replace c13:=dT c13;obtain⟨x,hx⟩:=A3 (l:=l) (k:=j) (by omega);have hxm:=List.mem_of_getElem? hx;have hfx:=hb x hxm;have htk:=a2y hx;have h3:j * 3001<=9000000:=by omega
 refine kQ0 [1,2,7,10,11,12] ?_;refine kA3 ?_;refine xW fun b9=>?_
 refine kQ2 [1,2,7,8,9,10,11,12] ?_;refine kP2 [1,2,7,9,10,11,12,18] ?_;refine I1 KKh [1,2,9,10,11,12] rfl (fun F' h'=>∃ a8:Option Addr,∃ c8:Nat,∃ r2:List Tok,(r2.length<=r.length+1/\r2++f x=D2 sep f (l.take (j+1)))/\F'=[(7,.slice a8 r2.length c8)]/\.pt b9 (.cells (foE x).toArray 154 (0,0))::.row (.slice a8 r2.length c8) 120 4 r2.length (fl B3 r2)::h=h') ?_ ?_;refine jE ?_;refine wc (fun c18=>?_) fun c18=>?_
 replace c18:=dT c18;have hln:(r++[(⟨5,0,sep,0⟩:Tok)]).length=r.length+1:=List.length_append;refine kA2 ?_;refine xf (E1 Et) (H2 _ _ _) ?_;refine xY A7 Eb fun b22=>?_
 refine xD A7 (Ev.tmp rfl) (Ev.tmp rfl) (show r.length+1=(r++[(⟨5,0,sep,0⟩:Tok)]).length by simp) (F5 (enc:=B3) _ (⟨5,0,sep,0⟩)) fun a23 c23=>?_
 refine kA1 ?_;refine WL.nil (D0 [(7,.slice a23 (r++[(⟨5,0,sep,0⟩:Tok)]).length c23)] (h'':=.pt b9 (.cells (foE x).toArray 154 (0,0))::.row (.slice a23 (r++[(⟨5,0,sep,0⟩:Tok)]).length c23) 120 4 (r++[(⟨5,0,sep,0⟩:Tok)]).length (fl B3 (r++[(⟨5,0,sep,0⟩:Tok)]))::h) ?_ Su Sb ⟨a23,c23,r++[(⟨5,0,sep,0⟩:Tok)],⟨by omega,by rw[htk,a1N sep f _ x (by intro q;have:=congrArg List.length q;rw[List.length_take] at this;simp only[List.length_nil] at this;omega),<- hJ,List.append_assoc];rfl⟩,rfl,rfl⟩);exact Su;replace c18:=dF c18;have hj0:j=0:=by omega
 subst hj0;have hr0:r=[]:=hJ;subst hr0;refine WC.skip (D0 [(7,.slice a7 ([]).length c7)] (h'':=.pt b9 (.cells (foE x).toArray 154 (0,0))::.row (.slice a7 ([]).length c7) 120 4 ([]).length (fl B3 ([]))::h) ?_ Su Sb ⟨a7,c7,[],⟨by simp,by rw[htk];rfl⟩,rfl,rfl⟩);exact Su;rintro _ _ ⟨a8,c8,r2,⟨hr2,hJ2⟩,rfl,rfl⟩;refine B2 rfl ?_;refine kA3 ?_;refine F8 (Ev.tmp rfl) (E1 (Ev.tmp rfl)) (ht x hxm _ Sb) Lb ?_;rintro _ _ ⟨a27,c27,k27,e27,rfl,rfl⟩;refine kR a27 fun p27 q27 r27=>?_
 have hln:(r2++f x).length=r2.length+k27:=by rw[List.length_append,e27]
 refine xD A7 (Ev.tmp rfl) (Ev.tmp rfl) (show r2.length+k27=(r2++f x).length from hln.symm) (a3d (enc:=B3) r2 (f x)).symm fun a28 c28=>?_
 refine kQ1 [1,2,7,10,11,12] ?_;refine kA2 ?_;refine WL.nil (A5 (l.length - (j+1)) [(7,.slice a28 (r2++f x).length c28),(12,.int .i64 (j+1))] (h'':=.row (.slice a28 (r2++f x).length c28) 120 4 (r2++f x).length (fl B3 (r2++f x))::h) (by omega) ?_ Su Sb ⟨a28,c28,r2++f x,j+1,⟨⟨by omega,by omega⟩,hJ2⟩,rfl,rfl,rfl⟩);exact Su;replace c13:=dF c13;rw[List.take_of_length_le (by omega)] at hJ;subst hJ;refine kQ0 [7] ?_;refine kQ2 [6] ?_;refine wT (.row (.slice a7 (D2 sep f l).length c7) 120 4 (D2 sep f l).length (fl B3 (D2 sep f l))::h) ?_;exact⟨_,_,_,rfl,rfl,rfl⟩
theorem b89 {m:View} (q:FuncId) (f:B->List Tok) (sep:B) (a:Option Addr) (k c:Nat) (l:List B) (h:List Res) (hs:Rd m h a k c 1 (fl encB l)) (hk:k<=3000) (hb:∀ x ∈ l,(f x).length<=3000)
 (ht:∀ x ∈ l,∀ h',h.Sublist h'->CT Tryz.prog q [str x] h' m (fun v _ h2=>OwT h' (f x) v h2)) :
 CT Tryz.prog 160 [.slice a k c,str sep,.func (.func q) #[] #[]] h m (fun v _ h'=>OwT h (D2 sep f l) v h'):=by
 have hlen:=hs.lenF C9 (by decide);subst hlen;refine CT.body Tryz.call160 Tryz.func160 rfl Tryz.ntmps160 Lb rfl ?_;refine kQ1 [0,1,2] ?_;refine WL.addNil 120 4 ?_;refine kQ1 [0,1,2,7] ?_;refine kQ3 [1,2,7,10,11,12] ?_;refine B0 [1,2,10,11] rfl (fun μ F' h'=>∃ a7:Option Addr,∃ c7:Nat,∃ r:List Tok,∃ j:Nat,((j<=l.length/\r.length<=j * 3001)/\r=D2 sep f (l.take j))/\l.length - j=μ/\F'=[(7,.slice a7 r.length c7),(12,.int .i64 j)]/\.row (.slice a7 r.length c7) 120 4 r.length (fl B3 r)::h=h') (l.length - 0) [(7,.slice none ([]).length 0),(12,.int .i64 0)] (h0:=.row (.slice none ([]).length 0) 120 4 ([]).length (fl B3 ([]))::h) ?_ Sb ⟨none,0,[],0,⟨⟨by omega,by simp⟩,rfl⟩,rfl,rfl,rfl⟩ ?_;exact Su;rintro _ _ _ ⟨a7,c7,r,j,⟨⟨hj,hr⟩,hJ⟩,rfl,rfl,rfl⟩;refine B2 rfl ?_;refine kQ1 [1,2,7,10,11,12,13] ?_;refine wc (fun c13=>?_) fun c13=>?_
 replace c13:=dT c13;obtain⟨x,hx⟩:=A3 (l:=l) (k:=j) (by omega);have hxm:=List.mem_of_getElem? hx;have hfx:=hb x hxm;have htk:=a2y hx;have h3:j * 3001<=9000000:=by omega
 refine kQ0 [1,2,7,10,11,12] ?_;refine kQ5 [1,2,7,8,9,10,11,12] ?_;refine kP2 [1,2,7,9,10,11,12,18] ?_;refine I1 KKh [1,2,9,10,11,12] rfl (fun F' h'=>∃ a8:Option Addr,∃ c8:Nat,∃ r2:List Tok,(r2.length<=r.length+1/\r2++f x=D2 sep f (l.take (j+1)))/\F'=[(7,.slice a8 r2.length c8)]/\.row (.slice a8 r2.length c8) 120 4 r2.length (fl B3 r2)::h=h') ?_ ?_;refine jE ?_;refine wc (fun c18=>?_) fun c18=>?_
 replace c18:=dT c18;have hln:(r++[(⟨5,0,sep,0⟩:Tok)]).length=r.length+1:=List.length_append;refine kA2 ?_;refine xf (E1 Et) (H2 _ _ _) ?_;refine xY A7 Eb fun b22=>?_
 refine xD A7 (Ev.tmp rfl) (Ev.tmp rfl) (show r.length+1=(r++[(⟨5,0,sep,0⟩:Tok)]).length by simp) (F5 (enc:=B3) _ (⟨5,0,sep,0⟩)) fun a23 c23=>?_
 refine kA1 ?_;refine WL.nil (D0 [(7,.slice a23 (r++[(⟨5,0,sep,0⟩:Tok)]).length c23)] (h'':=.row (.slice a23 (r++[(⟨5,0,sep,0⟩:Tok)]).length c23) 120 4 (r++[(⟨5,0,sep,0⟩:Tok)]).length (fl B3 (r++[(⟨5,0,sep,0⟩:Tok)]))::h) ?_ Su Sb ⟨a23,c23,r++[(⟨5,0,sep,0⟩:Tok)],⟨by omega,by rw[htk,a1N sep f _ x (by intro q;have:=congrArg List.length q;rw[List.length_take] at this;simp only[List.length_nil] at this;omega),<- hJ,List.append_assoc];rfl⟩,rfl,rfl⟩);exact Su;replace c18:=dF c18;have hj0:j=0:=by omega
 subst hj0;have hr0:r=[]:=hJ;subst hr0;refine WC.skip (D0 [(7,.slice a7 ([]).length c7)] (h'':=.row (.slice a7 ([]).length c7) 120 4 ([]).length (fl B3 ([]))::h) ?_ Su Sb ⟨a7,c7,[],⟨by simp,by rw[htk];rfl⟩,rfl,rfl⟩);exact Su;rintro _ _ ⟨a8,c8,r2,⟨hr2,hJ2⟩,rfl,rfl⟩;refine B2 rfl ?_;refine kA3 ?_;refine F8 (Ev.tmp rfl) (E1 (Ev.tmp rfl)) (ht x hxm _ Sb) Lb ?_;rintro _ _ ⟨a27,c27,k27,e27,rfl,rfl⟩;refine kR a27 fun p27 q27 r27=>?_
 have hln:(r2++f x).length=r2.length+k27:=by rw[List.length_append,e27]
 refine xD A7 (Ev.tmp rfl) (Ev.tmp rfl) (show r2.length+k27=(r2++f x).length from hln.symm) (a3d (enc:=B3) r2 (f x)).symm fun a28 c28=>?_
 refine kQ1 [1,2,7,10,11,12] ?_;refine kA2 ?_;refine WL.nil (A5 (l.length - (j+1)) [(7,.slice a28 (r2++f x).length c28),(12,.int .i64 (j+1))] (h'':=.row (.slice a28 (r2++f x).length c28) 120 4 (r2++f x).length (fl B3 (r2++f x))::h) (by omega) ?_ Su Sb ⟨a28,c28,r2++f x,j+1,⟨⟨by omega,by omega⟩,hJ2⟩,rfl,rfl,rfl⟩);exact Su;replace c13:=dF c13;rw[List.take_of_length_le (by omega)] at hJ;subst hJ;refine kQ0 [7] ?_;refine kQ2 [6] ?_;refine wT (.row (.slice a7 (D2 sep f l).length c7) 120 4 (D2 sep f l).length (fl B3 (D2 sep f l))::h) ?_;exact⟨_,_,_,rfl,rfl,rfl⟩
theorem b0w {m:View} (q:FuncId) (f:Int->List Tok) (sep:B) (a:Option Addr) (k c:Nat) (l:List Int) (h:List Res) (hs:Rd m h a k c 1 (fl N3 l)) (hk:k<=3000) (hb:∀ x ∈ l,(f x).length<=3000)
 (ht:∀ x ∈ l,∀ h',h.Sublist h'->CT Tryz.prog q [.int .u8 x] h' m (fun v _ h2=>OwT h' (f x) v h2)) :
 CT Tryz.prog 166 [.slice a k c,str sep,.func (.func q) #[] #[]] h m (fun v _ h'=>OwT h (D2 sep f l) v h'):=by
 have hlen:=hs.lenF D5 (by decide);subst hlen;refine CT.body Tryz.call166 Tryz.func166 rfl Tryz.ntmps166 Lb rfl ?_;refine kQ1 [0,1,2] ?_;refine WL.addNil 120 4 ?_;refine kQ1 [0,1,2,7] ?_;refine kQ3 [1,2,7,10,11,12] ?_;refine B0 [1,2,10,11] rfl (fun μ F' h'=>∃ a7:Option Addr,∃ c7:Nat,∃ r:List Tok,∃ j:Nat,((j<=l.length/\r.length<=j * 3001)/\r=D2 sep f (l.take j))/\l.length - j=μ/\F'=[(7,.slice a7 r.length c7),(12,.int .i64 j)]/\.row (.slice a7 r.length c7) 120 4 r.length (fl B3 r)::h=h') (l.length - 0) [(7,.slice none ([]).length 0),(12,.int .i64 0)] (h0:=.row (.slice none ([]).length 0) 120 4 ([]).length (fl B3 ([]))::h) ?_ Sb ⟨none,0,[],0,⟨⟨by omega,by simp⟩,rfl⟩,rfl,rfl,rfl⟩ ?_;exact Su;rintro _ _ _ ⟨a7,c7,r,j,⟨⟨hj,hr⟩,hJ⟩,rfl,rfl,rfl⟩;refine B2 rfl ?_;refine kQ1 [1,2,7,10,11,12,13] ?_;refine wc (fun c13=>?_) fun c13=>?_
 replace c13:=dT c13;obtain⟨x,hx⟩:=A3 (l:=l) (k:=j) (by omega);have hxm:=List.mem_of_getElem? hx;have hfx:=hb x hxm;have htk:=a2y hx;have h3:j * 3001<=9000000:=by omega
 refine kQ0 [1,2,7,10,11,12] ?_;refine kQ5 [1,2,7,8,9,10,11,12] ?_;refine kP2 [1,2,7,9,10,11,12,18] ?_;refine I1 KKh [1,2,9,10,11,12] rfl (fun F' h'=>∃ a8:Option Addr,∃ c8:Nat,∃ r2:List Tok,(r2.length<=r.length+1/\r2++f x=D2 sep f (l.take (j+1)))/\F'=[(7,.slice a8 r2.length c8)]/\.row (.slice a8 r2.length c8) 120 4 r2.length (fl B3 r2)::h=h') ?_ ?_;refine jE ?_;refine wc (fun c18=>?_) fun c18=>?_
 replace c18:=dT c18;have hln:(r++[(⟨5,0,sep,0⟩:Tok)]).length=r.length+1:=List.length_append;refine kA2 ?_;refine xf (E1 Et) (H2 _ _ _) ?_;refine xY A7 Eb fun b22=>?_
 refine xD A7 (Ev.tmp rfl) (Ev.tmp rfl) (show r.length+1=(r++[(⟨5,0,sep,0⟩:Tok)]).length by simp) (F5 (enc:=B3) _ (⟨5,0,sep,0⟩)) fun a23 c23=>?_
 refine kA1 ?_;refine WL.nil (D0 [(7,.slice a23 (r++[(⟨5,0,sep,0⟩:Tok)]).length c23)] (h'':=.row (.slice a23 (r++[(⟨5,0,sep,0⟩:Tok)]).length c23) 120 4 (r++[(⟨5,0,sep,0⟩:Tok)]).length (fl B3 (r++[(⟨5,0,sep,0⟩:Tok)]))::h) ?_ Su Sb ⟨a23,c23,r++[(⟨5,0,sep,0⟩:Tok)],⟨by omega,by rw[htk,a1N sep f _ x (by intro q;have:=congrArg List.length q;rw[List.length_take] at this;simp only[List.length_nil] at this;omega),<- hJ,List.append_assoc];rfl⟩,rfl,rfl⟩);exact Su;replace c18:=dF c18;have hj0:j=0:=by omega
 subst hj0;have hr0:r=[]:=hJ;subst hr0;refine WC.skip (D0 [(7,.slice a7 ([]).length c7)] (h'':=.row (.slice a7 ([]).length c7) 120 4 ([]).length (fl B3 ([]))::h) ?_ Su Sb ⟨a7,c7,[],⟨by simp,by rw[htk];rfl⟩,rfl,rfl⟩);exact Su;rintro _ _ ⟨a8,c8,r2,⟨hr2,hJ2⟩,rfl,rfl⟩;refine B2 rfl ?_;refine kA3 ?_;refine F8 (Ev.tmp rfl) (E1 (Ev.tmp rfl)) (ht x hxm _ Sb) Lb ?_;rintro _ _ ⟨a27,c27,k27,e27,rfl,rfl⟩;refine kR a27 fun p27 q27 r27=>?_
 have hln:(r2++f x).length=r2.length+k27:=by rw[List.length_append,e27]
 refine xD A7 (Ev.tmp rfl) (Ev.tmp rfl) (show r2.length+k27=(r2++f x).length from hln.symm) (a3d (enc:=B3) r2 (f x)).symm fun a28 c28=>?_
 refine kQ1 [1,2,7,10,11,12] ?_;refine kA2 ?_;refine WL.nil (A5 (l.length - (j+1)) [(7,.slice a28 (r2++f x).length c28),(12,.int .i64 (j+1))] (h'':=.row (.slice a28 (r2++f x).length c28) 120 4 (r2++f x).length (fl B3 (r2++f x))::h) (by omega) ?_ Su Sb ⟨a28,c28,r2++f x,j+1,⟨⟨by omega,by omega⟩,hJ2⟩,rfl,rfl,rfl⟩);exact Su;replace c13:=dF c13;rw[List.take_of_length_le (by omega)] at hJ;subst hJ;refine kQ0 [7] ?_;refine kQ2 [6] ?_;refine wT (.row (.slice a7 (D2 sep f l).length c7) 120 4 (D2 sep f l).length (fl B3 (D2 sep f l))::h) ?_;exact⟨_,_,_,rfl,rfl,rfl⟩
theorem a5S {α:Type} {p:α->Prop} {x:α} (h:p x):∀ y ∈ [x],p y:=fun _ hy=>(List.mem_singleton.1 hy) ▸ h
theorem _root_.Go.Pc.EOk.fr {m:View} {h:List Res} {e:Ex} (q:EOk m h e) (fr:List Res):EOk m (fr++h) e:=q.mono (List.sublist_append_right fr h)
theorem H8 {α:Type} {p:α->Prop}:∀ y ∈ ([]:List α),p y:=fun _ hx=>(List.not_mem_nil hx).elim
theorem B4 {α:Type} {p:α->Prop} {x:α} {l:List α} (h:p x) (r:∀ y ∈ l,p y):∀ y ∈ x::l,p y:=fun y hy=>by
 rcases List.mem_cons.1 hy with rfl | hy
 ·exact h
 ·exact r y hy
theorem b2E {m:View} (hg:Glob m) (s:B) (hw:s.length<=1000) (a:Option Addr) (k c:Nat) (l:List Tok) (h:List Res) (hs:Rd m h a k c 4 (fl B3 l)) (hk:k<=9000000):CT Tryz.prog 168 [str s,.slice a k c] h m (fun v _ h'=>OwT h (a2o s l) v h'):=by
 have hlen:=hs.lenF B5 (by decide);subst hlen;refine CT.body Tryz.call168 Tryz.func168 rfl Tryz.ntmps168 Lb rfl ?_;refine j0 ?_;refine WL.addNil 120 4 ?_;refine kQ1 [0,1] ?_;refine kQ3 [0,1,7] ?_;refine wc (fun c7=>?_) fun c7=>?_
 replace c7:=G3 c7;have e7:a2o s l=[]:=by unfold a2o;rw[if_pos (by omega)]
 refine j0 ?_;refine WL.addNil 120 4 ?_;refine kQ1 [4] ?_;refine wT (.row (.slice none 0 0) 120 4 0 (fl B3 [])::h) ?_;rw[e7];exact⟨none,0,0,rfl,rfl,rfl⟩
 replace c7:=G2 c7;have e7:a2o s l=A1 s::l:=by unfold a2o;rw[if_neg (by omega)]
 have hln:(A1 s::l).length=l.length+1:=rfl;refine kQ0 [0,1] ?_;refine kA1 ?_;refine xY O1 Eb fun b9=>?_
 refine xg (E1 Et) (C4 hg _ 1 _ [s] _ Rr (by decide) (a5S (Nat.le_trans hw (by decide)))) ?_;rintro _ _ ⟨a10,c10,_,rfl,rfl,rfl⟩;refine kA1 ?_;refine xD A7 (Ev.tmp rfl) (Ev.tmp rfl) (show 1+l.length=(A1 s::l).length by rw[hln,Nat.add_comm]) (a3d (enc:=B3) [A1 s] l).symm fun a12 c12=>?_
 refine kQ1 [4] ?_;refine wT (.row (.slice a12 (A1 s::l).length c12) 120 4 (A1 s::l).length (fl B3 (A1 s::l))::h) ?_;rw[e7];exact⟨_,_,_,rfl,rfl,rfl⟩
theorem c3S (n:Nat) (h:List Res) (m:View) (hn:n<=300000):CT Tryz.prog 227 [.slice none 0 0,.int .i64 n] h m (fun v _ h'=>OwT h [] v h'):=by
 refine CT.body Tryz.call227 Tryz.func227 rfl Tryz.ntmps227 Lb rfl ?_;refine kQ1 [0,1] ?_;refine kQ2 [0,1,6] ?_;refine wc (fun c6=>?_) fun c6=>?_
 replace c6:=dT c6;omega;replace c6:=dF c6;refine kQ0 [0,1] ?_;refine kA2 ?_;refine xG (b2n a0k Et) ?_;refine kA2 ?_;refine xG (Q5 Et Et (by omega)) ?_;refine xG (Q5 Et Et (by omega)) ?_;refine kQ1 [0,1] ?_;refine kQ2 [0,1,16] ?_;refine wc (fun c16=>?_) fun c16=>?_
 replace c16:=dT c16;have hn0:0 < n:=by omega
 refine kA2 ?_;refine xG (b2n a0k Et) ?_;refine xG (a1E A7.und A7.size Et Et rfl (by omega)) ?_;refine kA1 ?_;refine b9F A7 uu3 Et Et (q:=n) (by omega) (by omega) (by omega) (by omega) Lb fun b22 c22 hq22 hc22=>?_
 refine kA2 ?_;refine xG (a1E A7.und A7.size Et Et rfl (by omega)) ?_;refine kQ1 [0] ?_;refine kQ2 [4] ?_;refine wT (.row (.slice (some ⟨b22,0,none⟩) 0 c22) 120 4 0 (fl B3 [])::h) ?_;exact⟨_,_,0,rfl,rfl,by rw[c6B _ _ _ (.inr ⟨_,_,rfl⟩)]⟩;replace c16:=dF c16;refine WC.addNil 120 4 ?_;refine kQ0 [0] ?_;refine kQ2 [4] ?_;refine wT (.row (.slice none 0 0) 120 4 0 (fl B3 [])::h) ?_;exact⟨_,_,0,rfl,rfl,rfl⟩
def ptE (s:Sli Tok):List Value:=[.slice s.a s.l.length s.c]
theorem b6l (s:Sli Tok):(ptE s).length=1:=rfl
set_option linter.defProp false in
@[reducible,instance]def iptE_len:=Go.Eng.Ln.mk b6l (by decide)
theorem a4I (a:Option Addr) (k c:Nat) (ps:List (Sli Tok)) (h:List Res) (m:View) (hs:Rd m h a k c 1 (fl ptE ps)) (hp:∀ p ∈ ps,Rd m h p.a p.l.length p.c 4 (fl B3 p.l)) (hk:k<=10) (hb:∀ p ∈ ps,p.l.length<=30000) :
 CT Tryz.prog 173 [.slice a k c] h m (fun v _ h'=>OwT h (ps.flatMap (·.l)) v h'):=by
 have hlen:=hs.lenF b6l (by decide);subst hlen;refine CT.body Tryz.call173 Tryz.func173 rfl Tryz.ntmps173 Lb rfl ?_;refine kQ1 [0] ?_;refine kQ1 [0,3] ?_;refine kQ3 [0,3,9,10,11] ?_;refine B0 [0,9,10] rfl (fun μ F' h'=>∃ s:Nat,∃ j:Nat,(j<=ps.length/\s<=j * 30000)/\ps.length - j=μ/\F'=[(3,.int .i64 s),(11,.int .i64 j)]/\h=h') (ps.length - 0) [(3,.int .i64 0),(11,.int .i64 0)] (h0:=h) ?_ Sb ⟨0,0,⟨by omega,by omega⟩,rfl,rfl,rfl⟩ ?_;exact Su;rintro _ _ _ ⟨s,j,⟨hj,hs1⟩,rfl,rfl,rfl⟩;refine B2 rfl ?_;refine kQ1 [0,3,9,10,11,12] ?_;refine wc (fun c12=>?_) fun c12=>?_
 replace c12:=dT c12;obtain⟨p,hx⟩:=A3 (l:=ps) (k:=j) (by omega);have hbp:=hb p (List.mem_of_getElem? hx);refine kQ0 [0,3,9,10,11] ?_;refine kQ3 [0,3,5,9,10,11] ?_;refine kA3 ?_;refine xG (M5 Et Et (by omega)) ?_;refine WL.val (v':=.int .i64 ((s+p.l.length:Nat):Int)) (congrArg (Value.int .i64) (by omega)) ?_;refine kQ1 [0,3,9,10,11] ?_;refine kQ2 [0,3,9,10,11,20] ?_;refine wc (fun c20=>?_) fun c20=>?_
 replace c20:=dT c20;omega;replace c20:=dF c20;refine kQ0 [0,3,9,10,11] ?_;refine kA2 ?_;refine WL.nil (A5 (ps.length - (j+1)) [(3,.int .i64 (s+p.l.length)),(11,.int .i64 (j+1))] (h'':=h) (by omega) ?_ Su Sb ⟨s+p.l.length,j+1,⟨by omega,by omega⟩,rfl,rfl,rfl⟩);exact Su;replace c12:=dF c12;refine kQ0 [0,3] ?_;refine kA1 ?_;refine xg (E2 Ek Et) (c3S s _ _ (by omega)) ?_;rintro _ _ ⟨a24,c24,_,rfl,rfl,rfl⟩;refine kQ1 [0,6] ?_;refine kQ3 [6,25,26,27] ?_
 refine B0 [25,26] rfl (fun μ F' h'=>∃ a6:Option Addr,∃ c6:Nat,∃ r:List Tok,∃ j:Nat,((j<=ps.length/\r.length<=j * 30000)/\r=(ps.take j).flatMap (·.l))/\ps.length - j=μ/\F'=[(6,.slice a6 r.length c6),(27,.int .i64 j)]/\.row (.slice a6 r.length c6) 120 4 r.length (fl B3 r)::h=h') (ps.length - 0) [(6,.slice a24 ([]).length c24),(27,.int .i64 0)] (h0:=.row (.slice a24 ([]).length c24) 120 4 ([]).length (fl B3 ([]))::h) ?_ Sb ⟨a24,c24,[],0,⟨⟨by omega,by simp⟩,rfl⟩,rfl,rfl,rfl⟩ ?_;exact Su;rintro _ _ _ ⟨a6,c6,r,j,⟨⟨hj,hr⟩,hJ⟩,rfl,rfl,rfl⟩;refine B2 rfl ?_;refine kQ1 [6,25,26,27,28] ?_;refine wc (fun c28=>?_) fun c28=>?_
 replace c28:=dT c28;obtain⟨p,hx⟩:=A3 (l:=ps) (k:=j) (by omega);have hbp:=hb p (List.mem_of_getElem? hx);have hpr:=hp p (List.mem_of_getElem? hx);have htk:(ps.take (j+1)).flatMap (·.l)=(ps.take j).flatMap (·.l)++p.l:=by rw[a2y hx,List.flatMap_append];simp
 refine kQ0 [6,25,26,27] ?_;refine kQ3 [6,8,25,26,27] ?_;refine kA2 ?_;have hln:(r++p.l).length=r.length+p.l.length:=List.length_append;refine xD A7 (Ev.tmp rfl) (Ev.tmp rfl) (show r.length+p.l.length=(r++p.l).length from hln.symm) (a3d (enc:=B3) r p.l).symm fun a33 c33=>?_
 refine kQ1 [6,25,26,27] ?_;refine kA2 ?_;refine WL.nil (A5 (ps.length - (j+1)) [(6,.slice a33 (r++p.l).length c33),(27,.int .i64 (j+1))] (h'':=.row (.slice a33 (r++p.l).length c33) 120 4 (r++p.l).length (fl B3 (r++p.l))::h) (by omega) ?_ Su Sb ⟨a33,c33,r++p.l,j+1,⟨⟨by omega,by omega⟩,by rw[htk,hJ]⟩,rfl,rfl,rfl⟩);exact Su;replace c28:=dF c28;rw[List.take_of_length_le (by omega)] at hJ;subst hJ;refine kQ0 [6] ?_;refine kQ2 [2] ?_;refine wT (.row (.slice a6 (ps.flatMap (·.l)).length c6) 120 4 (ps.flatMap (·.l)).length (fl B3 (ps.flatMap (·.l)))::h) ?_;exact⟨_,_,_,rfl,rfl,rfl⟩
end
section
open Go.Eng Go.Pc Go.Sx Go
open Go.Xp hiding B C2
open Go.Ty (Ty Vr Tok eqT tyV I9 B3 B5 T9 zeroK N3 D5 encV D9)
open Go.Lx (encB C9 textO)
open Go.Ly (Rw I6 C6)
theorem a1m {d:Prop} {m:View} {R:Value->View->List Res->Prop} {c:List PanicEntry} {w:World} (h:d/\RQ m R (.panicked c) w):False:=by
 obtain⟨_,_,_,_,e,_⟩:=h;cases e
theorem L1 (e:Ex):(E5 e).length<=2000:=by
 unfold E5;split
 ·rename_i hm
  obtain⟨hF,hc⟩:=a5P hm;have:=a4A e hF;omega
 ·exact Nat.zero_le _
theorem a2U (t:Ty):(L5 t).length<=10:=by
 unfold L5 Go.Ty.tokens;split
 ·unfold Go.Ty.toks
  have h1:=Go.Ty.dimT_le t;have h2:=Go.Ty.chanT_le t;simp only[List.length_append,List.length_singleton];omega
 ·exact Nat.zero_le _
theorem c2D {m:View} (hg:Glob m) (r:Rp) (h:List Res) (hr:Rs m h r):CT Tryz.prog 169 [rpV r] h m (fun v _ h'=>OwT h (a1G r) v h'):=by
 have hB:=hr.b;have hC:=hr.c;have t1:=L1 r.base;have t2:=L1 r.count;refine CT.body Tryz.call169 Tryz.func169 rfl Tryz.ntmps169 Lb rfl ?_;refine j0 ?_;refine xX fun b1=>?_
 refine kQ1 [1] ?_;refine kA2 ?_;refine xG (N8 Et Ek) ?_;refine kQ0 [1,5] ?_;refine wc (fun c5=>?_) fun c5=>?_
 have c5:r.name=[]:=by simpa using c5
 have e5:a1G r=[]:=by unfold a1G;rw[if_pos c5]
 refine WC.addNil 120 4 ?_;refine kQ1 [2] ?_;refine wT (.row (.slice none 0 0) 120 4 0 (fl B3 [])::h) ?_;rw[e5];exact⟨none,0,0,rfl,rfl,rfl⟩
 have c5:¬ (r.name=[]):=by simpa using c5
 have e5:a1G r=[O9 r.name]++([A1 [61]]++(E5 r.base++([A1 [70,79,82]]++(E5 r.count++[])))):=by unfold a1G;rw[if_neg c5];simp only[List.append_assoc,List.append_nil]
 refine kQ0 [1] ?_;refine a0j [2,3,4,7,8,9,4096] (.op 0 (.op 1 (.op 5 (.op 6 (.op 10 (.op 11 (.op 2 (.op 3 (.op 4 (.op 7 (.op 8 (.op 9 .nil)))))))))))) [12,13,14,15] _ [] D7 (fun _ _ _ h=>a1m h) [] (by kernel_rfl) ?_;refine kA6 ?_;refine H0 rfl rfl Ef (E1 Et) (fun fr=>a1V r.name _ _) Lb fun a8 c8=>?_
 refine sB rfl O1 fun b9=>?_
 refine H0 rfl rfl Ef (E1 (Ev.tmp rfl)) (fun fr=>C4 hg _ 1 _ [[61]] _ (Rd.fr Rr fr) (by decide) (a5S (by decide))) Lb fun a10 c10=>?_
 refine H0 rfl rfl Ef (E1 Et) (fun fr=>J2 hg r.base _ ((hB.mono Sb).fr fr)) Lb fun a13 c13=>?_
 refine sB rfl O1 fun b14=>?_
 refine H0 rfl rfl Ef (E1 (Ev.tmp rfl)) (fun fr=>C4 hg _ 1 _ [[70,79,82]] _ (Rd.fr Rr fr) (by decide) (a5S (by decide))) Lb fun a15 c15=>?_
 refine SR.nil rfl rfl ?_;refine xg (E1 Et) (J2 hg r.count _ (hC.mono Sb)) ?_;rintro _ _ ⟨a18,c18,_,rfl,rfl,rfl⟩;refine xY K7 Eb fun b19=>?_
 refine kR a8 fun p8 q8 r8=>?_
 refine kR a10 fun p10 q10 r10=>?_
 refine kR a13 fun p13 q13 r13=>?_
 refine kR a15 fun p15 q15 r15=>?_
 refine kR a18 fun p18 q18 r18=>?_
 refine xg (E1 Et) (a4I _ 5 _ [⟨a8,c8,[O9 r.name]⟩,⟨a10,c10,[A1 [61]]⟩,⟨a13,c13,E5 r.base⟩,⟨a15,c15,[A1 [70,79,82]]⟩,⟨a18,c18,E5 r.count⟩] _ _ (Rd.ofPt rfl (by decide) Me) (B4 (iR r8 p8 q8) (B4 (iR r10 p10 q10) (B4 (iR r13 p13 q13) (B4 (iR r15 p15 q15) (B4 (iR r18 p18 q18) H8))))) (by decide) (B4 (by simp) (B4 (by simp) (B4 (by simp;omega) (B4 (by simp) (B4 (by simp;omega) H8)))))) ?_;rintro _ _ ⟨a20,c20,_,rfl,rfl,rfl⟩;refine kQ1 [2] ?_;refine wT (.row (.slice a20 _ c20) 120 4 _ (fl B3 _)::h) ?_;exact⟨_,_,_,congrArg List.length e5.symm,rfl,by rw[e5];rfl⟩
theorem b5F {m:View} (hg:Glob m) (f:Fo) (h:List Res) (hw:FoW f):CT Tryz.prog 165 [foV f] h m (fun v _ h'=>OwT h (R5 f) v h'):=by
 have t1:=a2U f.ty;have hp2:f.ty.proto.length<=9223372036854775807:=Nat.le_trans hw.t.p (by decide);refine CT.body Tryz.call165 Tryz.func165 rfl Tryz.ntmps165 Lb rfl ?_;refine j0 ?_;refine xX fun b1=>?_
 refine kQ1 [1] ?_;refine kQ1 [1,3] ?_;refine kQ2 [1,3,5] ?_;refine wc (fun c5=>?_) fun c5=>?_
 have e5:R5 f=[A1 [86,65,76]]++(L5 f.ty++([O9 f.name]++[])):=by unfold R5;rw[if_pos c5];simp only[List.append_assoc,List.append_nil]
 refine j0 ?_;refine xY O1 Eb fun b6=>?_
 refine xg (E1 Et) (C4 hg _ 1 _ [[86,65,76]] _ Rr (by decide) (a5S (by decide))) ?_;rintro _ _ ⟨a7,c7,_,rfl,rfl,rfl⟩;refine kQ1 [1,3] ?_;refine F7 [3] (.op 0 (.op 1 (.op 2 (.op 4 (.op 5 (.op 3 .nil)))))) [6,7,8,9] _ [] D7 (fun _ _ _ _ _ h=>h) [0] (by kernel_rfl) ?_;refine kA5 ?_;refine H0 rfl rfl Ef (E1 Et) (fun fr=>a1A hg f.ty _ hp2) Lb fun a11 c11=>?_
 refine SR.nil rfl rfl ?_;refine xg (E1 Et) (a1V f.name _ _) ?_;rintro _ _ ⟨a14,c14,_,rfl,rfl,rfl⟩;refine xY K7 Eb fun b15=>?_
 refine kR a7 fun p7 q7 r7=>?_
 refine kR a11 fun p11 q11 r11=>?_
 refine kR a14 fun p14 q14 r14=>?_
 refine xg (E1 Et) (a4I _ 3 _ [⟨a7,c7,[A1 [86,65,76]]⟩,⟨a11,c11,L5 f.ty⟩,⟨a14,c14,[O9 f.name]⟩] _ _ (Rd.ofPt rfl (by decide) Me) (B4 (iR r7 p7 q7) (B4 (iR r11 p11 q11) (B4 (iR r14 p14 q14) H8))) (by decide) (B4 (by simp) (B4 (by simp;omega) (B4 (by simp) H8)))) ?_;rintro _ _ ⟨a16,c16,_,rfl,rfl,rfl⟩;refine kQ1 [2] ?_;refine wT (.row (.slice a16 _ c16) 120 4 _ (fl B3 _)::h) ?_;exact⟨_,_,_,congrArg List.length e5.symm,rfl,by rw[e5];rfl⟩;have e5:R5 f=[]++(L5 f.ty++([O9 f.name]++[])):=by unfold R5;rw[if_neg (H5 c5)];simp only[List.append_assoc,List.append_nil]
 refine kQ0 [1,3] ?_;refine F7 [3] (.op 0 (.op 1 (.op 2 (.op 4 (.op 5 (.op 3 .nil)))))) [6,7,8,9] _ [] D7 (fun _ _ _ _ _ h=>h) [0] (by kernel_rfl) ?_;refine kA5 ?_;refine H0 rfl rfl Ef (E1 Et) (fun fr=>a1A hg f.ty _ hp2) Lb fun a11 c11=>?_
 refine SR.nil rfl rfl ?_;refine xg (E1 Et) (a1V f.name _ _) ?_;rintro _ _ ⟨a14,c14,_,rfl,rfl,rfl⟩;refine xY K7 Eb fun b15=>?_
 refine kR a11 fun p11 q11 r11=>?_
 refine kR a14 fun p14 q14 r14=>?_
 refine xg (E1 Et) (a4I _ 3 _ [⟨none,0,[]⟩,⟨a11,c11,L5 f.ty⟩,⟨a14,c14,[O9 f.name]⟩] _ _ (Rd.ofPt rfl (by decide) Me) (B4 (Rd.nilF B3 4 _ _) (B4 (iR r11 p11 q11) (B4 (iR r14 p14 q14) H8))) (by decide) (B4 (by simp) (B4 (by simp;omega) (B4 (by simp) H8)))) ?_;rintro _ _ ⟨a16,c16,_,rfl,rfl,rfl⟩;refine kQ1 [2] ?_;refine wT (.row (.slice a16 _ c16) 120 4 _ (fl B3 _)::h) ?_;exact⟨_,_,_,congrArg List.length e5.symm,rfl,by rw[e5];rfl⟩
abbrev prB (b:Nat) (a:Option Addr) (c:Nat) (st:Ps):Res:=.pt b (.cells [.slice a st.1.length c,.bool st.2].toArray 129 (0,0))
abbrev prW (a:Option Addr) (c:Nat) (st:Ps):Res:=.row (.slice a st.1.length c) 53 3 st.1.length (fl I6 st.1)
theorem U3 {st:Ps} {x:Ln} (h:st.1.length<=2049):(C5 st x).1.length<=2049:=by
 unfold C5;split
 ·exact h
 ·rename_i q
  simp only[List.length_append,List.length_singleton];omega
theorem a08:∀ (l:List Ln) {st:Ps},st.1.length<=2049->(B6 st l).1.length<=2049
 | [],_,h=>h
 | x::l,_,h=>a08 l (U3 (x:=x) h)
abbrev PrR (b:Nat) (h:List Res) (st:Ps) (h':List Res):Prop:=∃ a c,h'=prB b a c st::prW a c st::h
theorem G5 {m:View} (hg:Glob m) (hp:Pow m) (b:Nat) (a:Option Addr) (c:Nat) (st:Ps) (d:Int) (pa:Option Addr) (pk pc:Nat) (ps:List (Sli Tok)) (toks:List Tok) (h:List Res) (hs:Rd m h pa pk pc 1 (fl ptE ps)) (hps:∀ p ∈ ps,Rd m h p.a p.l.length p.c 4 (fl B3 p.l)) (hk:pk<=10)
 (hb:∀ p ∈ ps,p.l.length<=30000) (he:ps.flatMap (·.l)=toks) (hT:TkL toks) (hn:st.1.length<=2049) :
 CT Tryz.prog 106 [ptV b,.int .i64 d,.slice pa pk pc] (prB b a c st::prW a c st::h) m (fun _ _ h'=>PrR b h (C5 st (d,toks)) h'):=by
 subst he;refine CT.body Tryz.call106 Tryz.func106 rfl Tryz.ntmps106 Lb rfl ?_;refine kA1 ?_;refine xg (E1 Et) (a4I pa pk pc ps _ _ (hs.mono Vl Sb) (fun p hp=>(hps p hp).mono Vl Sb) hk hb) ?_;rintro _ _ ⟨a10,c10,_,rfl,rfl,rfl⟩;refine kR a10 fun p10 q10 r10=>?_
 refine xf (E1 Et) (b8g a10 _ c10 _ _ m hg hp (iR r10 p10 q10) hT) ?_;refine kQ5 [0,1,6,7] ?_;refine kA4 ?_;refine zG (fun hc=>PO.nilCheck (Eg hc)) ?_;refine kQ5 [0,1,6,23] ?_;refine wc (fun c23=>?_) fun c23=>?_
 have e23:C5 st (d,ps.flatMap (·.l))=(st.1,true):=by
  unfold C5;rw[if_pos];simp only[Bool.or_eq_true,bne_iff_ne,ne_eq,decide_eq_true_eq] at c23;exact c23.imp id fun q=>by omega
 refine kQ4 [] ?_;refine WC.ret (b1T (h':=prB b a c (st.1,true)::prW a c st::h) (.inl rfl) rfl  Vl Sb ?_);exact⟨a,c,by rw[e23]⟩;have e23:C5 st (d,ps.flatMap (·.l))=(st.1++[⟨st.1.length+1,d,(textO (ps.flatMap (·.l))).1⟩],st.2):=by
  unfold C5;rw[if_neg];intro q;have:(((textO (ps.flatMap (·.l))).2 != 0)||decide ((st.1.length:Int) > 2048))=true:=by
   simp only[Bool.or_eq_true,bne_iff_ne,ne_eq,decide_eq_true_eq];exact q.imp id fun q=>by omega
  rw[this] at c23;cases c23
 have hln:(st.1++[(⟨st.1.length+1,d,(textO (ps.flatMap (·.l))).1⟩:Rw)]).length=st.1.length+1:=List.length_append;refine kQ0 [0,1,6] ?_;refine F7 [14] (.op 0 (.op 1 (.op 2 (.op 3 (.op 4 (.op 5 (.op 6 (.op 7 (.op 8 (.op 9 (.op 10 (.op 11 (.op 12 (.op 13 (.op 14 .nil))))))))))))))) [15,16,17,18] _ [] D7 (fun _ _ _ _ _ h=>h) [0] (by kernel_rfl) ?_;refine kA9 ?_;refine yG rfl (W7 a7G Et) ?_;refine yG rfl (M5 Et Ek (by omega)) ?_;refine kA2 ?_;refine yG rfl (PO.build a9y rfl rfl rfl Eb (by exact rfl)) ?_;refine sB rfl S0 fun b41=>?_
 refine SR.nil rfl rfl ?_;refine xD S0 (Ev.tmp rfl) (Ev.tmp rfl) (show st.1.length+1=(st.1++[(⟨st.1.length+1,d,(textO (ps.flatMap (·.l))).1⟩:Rw)]).length by simp) (F5 (enc:=I6) _ (⟨st.1.length+1,d,(textO (ps.flatMap (·.l))).1⟩)) fun a42 c42=>?_
 refine kA3 ?_;refine WL.nil (w0 (prB b a42 c42 (st.1++[⟨st.1.length+1,d,(textO (ps.flatMap (·.l))).1⟩],st.2)::prW a42 c42 (st.1++[⟨st.1.length+1,d,(textO (ps.flatMap (·.l))).1⟩],st.2)::h) ?_);exact⟨a42,c42,by rw[e23]⟩
end
section
open Go.Eng Go.Pc Go.Sx Go
open Go.Xp hiding B C2
open Go.Ty (Ty Vr Tok eqT tyV I9 B3 B5 T9 zeroK N3 D5 encV D9)
open Go.Lx (encB C9 textO)
open Go.Ly (Rw I6 C6)
theorem a2V {α:Type} (sep:B) (f:α->List Tok) (n:Nat):∀ (l:List α),(∀ x ∈ l,(f x).length<=n)->(D2 sep f l).length<=l.length * (n+1)
 | [],_=>Nat.zero_le _
 | [x],h=>by
  have:=h x (List.Mem.head _);show(f x).length<=1 * (n+1);omega
 | x::y::r,h=>by
  have h1:=h x (List.Mem.head _);have h2:=a2V sep f n (y::r) fun z hz=>h z (List.Mem.tail _ hz)
  show(f x++⟨5,0,sep,0⟩::D2 sep f (y::r)).length<=_;rw[List.length_append,List.length_cons];simp only[List.length_cons] at h2 ⊢;rw[Nat.add_mul (r.length+1) 1 (n+1)];omega
theorem a0s (sep:B) (l:List Ex) (h:l.length<=9):(D2 sep E5 l).length<=30000:=by
 have h1:=a2V sep E5 2000 l fun x _=>L1 x
 have h2:l.length * 2001<=9 * 2001:=Nat.mul_le_mul_right _ h;omega
theorem a9j (r:Rp):(a1G r).length<=30000:=by
 unfold a1G;split
 ·exact Nat.zero_le _
 ·have h1:=L1 r.base
  have h2:=L1 r.count;simp only[List.length_append,List.length_singleton];omega
theorem a1v {m:View} (hg:Glob m) (b4:Nat) (p:Pr) (sep:B) (h:List Res) (hb:Res.pt b4 (.cells (prE p).toArray 46 (0,0)) ∈ h) (hL:LOk m h p.ex) (hE:p.ex.l.length<=9) :
 CT Tryz.prog 170 [str sep,ptV b4] h m (fun v _ h'=>OwT h (D2 sep E5 p.ex.l) v h'):=by
 refine CT.body Tryz.call170 Tryz.func170 rfl Tryz.ntmps170 Lb rfl ?_;refine kQ1 [0,1] ?_;refine kA1 ?_;refine xG (D3 c6V rfl Et hb rfl) ?_;refine kA1 ?_;refine xg (E3 Et Et Ef) (a3c 163 E5 sep _ _ _ p.ex.l _ hL.rd (by omega) (fun x _=>Nat.le_trans (L1 x) (by decide)) (fun x hx h2 hh=>J2 hg x h2 ((hL.ok x hx).mono hh))) ?_;rintro _ _ ⟨a7,c7,_,rfl,rfl,rfl⟩;refine kQ1 [3] ?_;refine wT (.row (.slice a7 (D2 sep E5 p.ex.l).length c7) 120 4 (D2 sep E5 p.ex.l).length (fl B3 (D2 sep E5 p.ex.l))::h) ?_;exact⟨_,_,_,rfl,rfl,rfl⟩
set_option maxHeartbeats 4000000 in
theorem b8T {m:View} (hg:Glob m) (hp:Pow m) (p:Pr) (b:Nat) (a:Option Addr) (c:Nat) (st:Ps) (d:Int) (h:List Res) (hO:P1 m h p) (hTg:p.tg.l.length<=9) (hEx:p.ex.l.length<=9) (hk:1<=p.k/\p.k<=17) (hT:TkL (A8 p.k p.name p.ch p.tg.l p.ex.l p.rep)) (hn:st.1.length<=2049) :
 CT Tryz.prog 105 [ptV b,prV p,.int .i64 d] (prB b a c st::prW a c st::h) m (fun _ _ h'=>PrR b h (C5 st (d,A8 p.k p.name p.ch p.tg.l p.ex.l p.rep)) h'):=by
 refine CT.body Tryz.call105 Tryz.func105 rfl Tryz.ntmps105 Lb rfl ?_;refine j0 ?_;refine xX fun b4=>?_
 refine kQ0 [0,2,4] ?_;refine kA2 ?_;refine xg (E1 Et) (c2D hg p.rep _ (Rs.mono (h:=h) ⟨hO.rn,hO.rb,hO.rc⟩ Sb)) ?_;rintro _ _ ⟨a10,c10,_,rfl,rfl,rfl⟩;refine kQ1 [0,2,4,6] ?_;refine xG (PO.makeFunc Evs.nil (E1 Et)) ?_;refine kQ1 [0,2,4,6,7] ?_;refine kQ2 [0,2,4,6,7,13] ?_;refine kQ2 [0,2,4,6,7,13,14] ?_;refine wc (fun c14=>?_) fun c14=>?_
 replace c14:=G3 c14;have e9:=A8.eq_1 p.k p.name p.ch p.tg.l p.ex.l p.rep;rw[if_pos c14] at e9;refine kA2 ?_;refine xY O1 Eb fun b18=>?_
 refine xg (E1 Et) (C4 hg _ 1 _ [[83,75,73,80]] _ Rr (by decide) (by decide)) ?_;rintro _ _ ⟨a19,c19,_,rfl,rfl,rfl⟩;refine xY K7 Eb fun b20=>?_
 refine kR a19 fun p19 q19 r19=>?_
 refine WL.perm ((Del.perm (r:=prB b a c st) De).trans ((Del.perm (r:=prW a c st) De).cons _)) ?_;refine xg (E3 Et Et Et) (G5 hg hp b a c st d _ 1 _ [⟨a19,c19,[A1 [83,75,73,80]]⟩] (A8 p.k p.name p.ch p.tg.l p.ex.l p.rep) _ (Rd.ofPt rfl (by decide) Me) (B4 (iR r19 p19 q19) H8) (by decide) (B4 (by simp) H8) (by rw[e9];simp) (hT) hn) ?_;rintro _ _ ⟨a21,c21,rfl⟩;refine WL.nil (w0 (prB b a21 c21 (C5 st (d,A8 p.k p.name p.ch p.tg.l p.ex.l p.rep))::prW a21 c21 (C5 st (d,A8 p.k p.name p.ch p.tg.l p.ex.l p.rep))::h) ?_);exact⟨a21,c21,rfl⟩;replace c14:=G2 c14;refine kQ2 [0,2,4,6,7,13,22] ?_;refine wc (fun c22=>?_) fun c22=>?_
 replace c22:=G3 c22;have e9:=A8.eq_1 p.k p.name p.ch p.tg.l p.ex.l p.rep;rw[if_neg c14,if_pos c22] at e9;refine kA2 ?_;refine xY O1 Eb fun b26=>?_
 refine xg (E1 Et) (C4 hg _ 1 _ [[83,84,79,80]] _ Rr (by decide) (by decide)) ?_;rintro _ _ ⟨a27,c27,_,rfl,rfl,rfl⟩;refine xY K7 Eb fun b28=>?_
 refine kR a27 fun p27 q27 r27=>?_
 refine WL.perm ((Del.perm (r:=prB b a c st) De).trans ((Del.perm (r:=prW a c st) De).cons _)) ?_;refine xg (E3 Et Et Et) (G5 hg hp b a c st d _ 1 _ [⟨a27,c27,[A1 [83,84,79,80]]⟩] (A8 p.k p.name p.ch p.tg.l p.ex.l p.rep) _ (Rd.ofPt rfl (by decide) Me) (B4 (iR r27 p27 q27) H8) (by decide) (B4 (by simp) H8) (by rw[e9];simp) (hT) hn) ?_;rintro _ _ ⟨a29,c29,rfl⟩;refine WL.nil (w0 (prB b a29 c29 (C5 st (d,A8 p.k p.name p.ch p.tg.l p.ex.l p.rep))::prW a29 c29 (C5 st (d,A8 p.k p.name p.ch p.tg.l p.ex.l p.rep))::h) ?_);exact⟨a29,c29,rfl⟩;replace c22:=G2 c22;refine kQ2 [0,2,4,6,7,13,30] ?_;refine wc (fun c30=>?_) fun c30=>?_
 replace c30:=G3 c30;have e9:=A8.eq_1 p.k p.name p.ch p.tg.l p.ex.l p.rep;rw[if_neg c14,if_neg c22,if_pos c30] at e9;refine kA4 ?_;refine xg (E3 Et Ek Ef) (a3c 163 E5 [44] _ _ _ p.tg.l _ (hO.tg.rd.mono Vl Sb) (by omega) (fun x _=>Nat.le_trans (L1 x) (by decide)) (fun x hx h2 hh=>J2 hg x h2 ((hO.tg.ok x hx).mono (List.Sublist.trans Sb hh)))) ?_;rintro _ _ ⟨a36,c36,_,rfl,rfl,rfl⟩;refine xY O1 Eb fun b37=>?_
 refine xg (E1 Et) (C4 hg _ 1 _ [[58,61]] _ Rr (by decide) (by decide)) ?_;rintro _ _ ⟨a38,c38,_,rfl,rfl,rfl⟩;refine kA1 ?_;refine F8 (Ev.tmp rfl) (E1 Ek) (a1v hg b4 p [44] _ Me (hO.ex.mono Sb) hEx) Lb ?_;rintro _ _ ⟨a40,c40,_,rfl,rfl,rfl⟩;refine xY K7 Eb fun b41=>?_
 refine kR a36 fun p36 q36 r36=>?_
 refine kR a38 fun p38 q38 r38=>?_
 refine kR a40 fun p40 q40 r40=>?_
 refine WL.perm ((Del.perm (r:=prB b a c st) De).trans ((Del.perm (r:=prW a c st) De).cons _)) ?_;refine xg (E3 Et Et Et) (G5 hg hp b a c st d _ 3 _ [⟨a36,c36,D2 [44] E5 p.tg.l⟩,⟨a38,c38,[A1 [58,61]]⟩,⟨a40,c40,D2 [44] E5 p.ex.l⟩] (A8 p.k p.name p.ch p.tg.l p.ex.l p.rep) _ (Rd.ofPt rfl (by decide) Me) (B4 (iR r36 p36 q36) (B4 (iR r38 p38 q38) (B4 (iR r40 p40 q40) H8))) (by decide) (B4 (a0s [44] p.tg.l (by omega)) (B4 (by simp) (B4 (a0s [44] p.ex.l (by omega)) H8))) (by rw[e9];simp) (hT) hn) ?_;rintro _ _ ⟨a42,c42,rfl⟩;refine WL.nil (w0 (prB b a42 c42 (C5 st (d,A8 p.k p.name p.ch p.tg.l p.ex.l p.rep))::prW a42 c42 (C5 st (d,A8 p.k p.name p.ch p.tg.l p.ex.l p.rep))::h) ?_);exact⟨a42,c42,rfl⟩;replace c30:=G2 c30;refine kQ2 [0,2,4,6,7,13,43] ?_;refine wc (fun c43=>?_) fun c43=>?_
 replace c43:=G3 c43;have e9:=A8.eq_1 p.k p.name p.ch p.tg.l p.ex.l p.rep;rw[if_neg c14,if_neg c22,if_neg c30,if_pos c43] at e9;refine jE ?_;refine a0j [4,5,6,4096] (.op 0 (.op 1 (.op 2 (.op 3 (.op 7 (.op 8 (.op 4 (.op 5 (.op 6 .nil))))))))) [9,10,11] _ [] D7 (fun _ _ _ h=>a1m h) [0,1] (by kernel_rfl) ?_;refine kA6 ?_;refine H0 rfl rfl Ef (E1 Et) (fun fr=>J2 hg p.ch _ (hO.ch.mono Sb)) Lb fun a49 c49=>?_
 refine sB rfl O1 fun b50=>?_
 refine H0 rfl rfl Ef (E1 (Ev.tmp rfl)) (fun fr=>C4 hg _ 1 _ [[63]] _ (Rd.fr Rr fr) (by decide) (by decide)) Lb fun a51 c51=>?_
 refine SR.nil rfl rfl ?_;refine xg (E3 Et Ek Ef) (a3c 163 E5 [59] _ _ _ p.tg.l _ (hO.tg.rd.mono Vl Sb) (by omega) (fun x _=>Nat.le_trans (L1 x) (by decide)) (fun x hx h2 hh=>J2 hg x h2 ((hO.tg.ok x hx).mono (List.Sublist.trans Sb hh)))) ?_;rintro _ _ ⟨a54,c54,_,rfl,rfl,rfl⟩;refine xY K7 Eb fun b55=>?_
 refine kR a49 fun p49 q49 r49=>?_
 refine kR a51 fun p51 q51 r51=>?_
 refine kR a54 fun p54 q54 r54=>?_
 refine WL.perm ((Del.perm (r:=prB b a c st) De).trans ((Del.perm (r:=prW a c st) De).cons _)) ?_;refine xg (E3 Et Et Et) (G5 hg hp b a c st d _ 3 _ [⟨a49,c49,E5 p.ch⟩,⟨a51,c51,[A1 [63]]⟩,⟨a54,c54,D2 [59] E5 p.tg.l⟩] (A8 p.k p.name p.ch p.tg.l p.ex.l p.rep) _ (Rd.ofPt rfl (by decide) Me) (B4 (iR r49 p49 q49) (B4 (iR r51 p51 q51) (B4 (iR r54 p54 q54) H8))) (by decide) (B4 (Nat.le_trans (L1 _) (by decide)) (B4 (by simp) (B4 (a0s [59] p.tg.l (by omega)) H8))) (by rw[e9];simp) (hT) hn) ?_;rintro _ _ ⟨a56,c56,rfl⟩;refine WL.nil (w0 (prB b a56 c56 (C5 st (d,A8 p.k p.name p.ch p.tg.l p.ex.l p.rep))::prW a56 c56 (C5 st (d,A8 p.k p.name p.ch p.tg.l p.ex.l p.rep))::h) ?_);exact⟨a56,c56,rfl⟩;replace c43:=G2 c43;refine kQ2 [0,2,4,6,7,13,57] ?_;refine wc (fun c57=>?_) fun c57=>?_
 replace c57:=G3 c57;have e9:=A8.eq_1 p.k p.name p.ch p.tg.l p.ex.l p.rep;rw[if_neg c14,if_neg c22,if_neg c30,if_neg c43,if_pos c57] at e9;refine kA4 ?_;refine xg (E1 Et) (J2 hg p.ch _ (hO.ch.mono Sb)) ?_;rintro _ _ ⟨a63,c63,_,rfl,rfl,rfl⟩;refine xY O1 Eb fun b64=>?_
 refine xg (E1 Et) (C4 hg _ 1 _ [[33]] _ Rr (by decide) (by decide)) ?_;rintro _ _ ⟨a65,c65,_,rfl,rfl,rfl⟩;refine kA1 ?_;refine F8 (Ev.tmp rfl) (E1 Ek) (a1v hg b4 p [59] _ Me (hO.ex.mono Sb) hEx) Lb ?_;rintro _ _ ⟨a67,c67,_,rfl,rfl,rfl⟩;refine xY K7 Eb fun b68=>?_
 refine kR a63 fun p63 q63 r63=>?_
 refine kR a65 fun p65 q65 r65=>?_
 refine kR a67 fun p67 q67 r67=>?_
 refine WL.perm ((Del.perm (r:=prB b a c st) De).trans ((Del.perm (r:=prW a c st) De).cons _)) ?_;refine xg (E3 Et Et Et) (G5 hg hp b a c st d _ 3 _ [⟨a63,c63,E5 p.ch⟩,⟨a65,c65,[A1 [33]]⟩,⟨a67,c67,D2 [59] E5 p.ex.l⟩] (A8 p.k p.name p.ch p.tg.l p.ex.l p.rep) _ (Rd.ofPt rfl (by decide) Me) (B4 (iR r63 p63 q63) (B4 (iR r65 p65 q65) (B4 (iR r67 p67 q67) H8))) (by decide) (B4 (Nat.le_trans (L1 _) (by decide)) (B4 (by simp) (B4 (a0s [59] p.ex.l (by omega)) H8))) (by rw[e9];simp) (hT) hn) ?_;rintro _ _ ⟨a69,c69,rfl⟩;refine WL.nil (w0 (prB b a69 c69 (C5 st (d,A8 p.k p.name p.ch p.tg.l p.ex.l p.rep))::prW a69 c69 (C5 st (d,A8 p.k p.name p.ch p.tg.l p.ex.l p.rep))::h) ?_);exact⟨a69,c69,rfl⟩;replace c57:=G2 c57;refine kQ2 [0,2,4,6,7,13,70] ?_;refine wc (fun c70=>?_) fun c70=>?_
 replace c70:=G3 c70;have e9:=A8.eq_1 p.k p.name p.ch p.tg.l p.ex.l p.rep;rw[if_neg c14,if_neg c22,if_neg c30,if_neg c43,if_neg c57,if_pos c70] at e9;refine kA4 ?_;refine xg (E1 Et) (J2 hg p.ch _ (hO.ch.mono Sb)) ?_;rintro _ _ ⟨a76,c76,_,rfl,rfl,rfl⟩;refine xY O1 Eb fun b77=>?_
 refine xg (E1 Et) (C4 hg _ 2 _ [[63],[65,70,84,69,82]] _ Rr (by decide) (by decide)) ?_;rintro _ _ ⟨a78,c78,_,rfl,rfl,rfl⟩;refine kA1 ?_;refine F8 (Ev.tmp rfl) (E1 Ek) (a1v hg b4 p [] _ Me (hO.ex.mono Sb) hEx) Lb ?_;rintro _ _ ⟨a80,c80,_,rfl,rfl,rfl⟩;refine xY K7 Eb fun b81=>?_
 refine kR a76 fun p76 q76 r76=>?_
 refine kR a78 fun p78 q78 r78=>?_
 refine kR a80 fun p80 q80 r80=>?_
 refine WL.perm ((Del.perm (r:=prB b a c st) De).trans ((Del.perm (r:=prW a c st) De).cons _)) ?_;refine xg (E3 Et Et Et) (G5 hg hp b a c st d _ 3 _ [⟨a76,c76,E5 p.ch⟩,⟨a78,c78,[A1 [63],A1 [65,70,84,69,82]]⟩,⟨a80,c80,D2 [] E5 p.ex.l⟩] (A8 p.k p.name p.ch p.tg.l p.ex.l p.rep) _ (Rd.ofPt rfl (by decide) Me) (B4 (iR r76 p76 q76) (B4 (iR r78 p78 q78) (B4 (iR r80 p80 q80) H8))) (by decide) (B4 (Nat.le_trans (L1 _) (by decide)) (B4 (by simp) (B4 (a0s [] p.ex.l (by omega)) H8))) (by rw[e9];simp) (hT) hn) ?_;rintro _ _ ⟨a82,c82,rfl⟩;refine WL.nil (w0 (prB b a82 c82 (C5 st (d,A8 p.k p.name p.ch p.tg.l p.ex.l p.rep))::prW a82 c82 (C5 st (d,A8 p.k p.name p.ch p.tg.l p.ex.l p.rep))::h) ?_);exact⟨a82,c82,rfl⟩;replace c70:=G2 c70;refine kQ2 [0,2,4,6,7,13,83] ?_;refine wc (fun c83=>?_) fun c83=>?_
 replace c83:=G3 c83;have e9:=A8.eq_1 p.k p.name p.ch p.tg.l p.ex.l p.rep;rw[if_neg c14,if_neg c22,if_neg c30,if_neg c43,if_neg c57,if_neg c70,if_pos c83] at e9;refine kA4 ?_;refine xg (E1 Et) (J2 hg p.ch _ (hO.ch.mono Sb)) ?_;rintro _ _ ⟨a89,c89,_,rfl,rfl,rfl⟩;refine xY O1 Eb fun b90=>?_
 refine xg (E1 Et) (C4 hg _ 2 _ [[63],[67,65,83,69]] _ Rr (by decide) (by decide)) ?_;rintro _ _ ⟨a91,c91,_,rfl,rfl,rfl⟩;refine xY K7 Eb fun b92=>?_
 refine kR a89 fun p89 q89 r89=>?_
 refine kR a91 fun p91 q91 r91=>?_
 refine WL.perm ((Del.perm (r:=prB b a c st) De).trans ((Del.perm (r:=prW a c st) De).cons _)) ?_;refine xg (E3 Et Et Et) (G5 hg hp b a c st d _ 2 _ [⟨a89,c89,E5 p.ch⟩,⟨a91,c91,[A1 [63],A1 [67,65,83,69]]⟩] (A8 p.k p.name p.ch p.tg.l p.ex.l p.rep) _ (Rd.ofPt rfl (by decide) Me) (B4 (iR r89 p89 q89) (B4 (iR r91 p91 q91) H8)) (by decide) (B4 (Nat.le_trans (L1 _) (by decide)) (B4 (by simp) H8)) (by rw[e9];simp) (hT) hn) ?_;rintro _ _ ⟨a93,c93,rfl⟩;refine WL.nil (w0 (prB b a93 c93 (C5 st (d,A8 p.k p.name p.ch p.tg.l p.ex.l p.rep))::prW a93 c93 (C5 st (d,A8 p.k p.name p.ch p.tg.l p.ex.l p.rep))::h) ?_);exact⟨a93,c93,rfl⟩;replace c83:=G2 c83;refine kQ2 [0,2,4,6,7,13,94] ?_;refine wc (fun c94=>?_) fun c94=>?_
 replace c94:=G3 c94;have e9:=A8.eq_1 p.k p.name p.ch p.tg.l p.ex.l p.rep;rw[if_neg c14,if_neg c22,if_neg c30,if_neg c43,if_neg c57,if_neg c70,if_neg c83,if_pos c94] at e9;refine kA2 ?_;refine xY O1 Eb fun b98=>?_
 refine xg (E1 Et) (C4 hg _ 1 _ [[83,69,81]] _ Rr (by decide) (by decide)) ?_;rintro _ _ ⟨a99,c99,_,rfl,rfl,rfl⟩;refine kA1 ?_;refine xY K7 Eb fun b101=>?_
 refine kR a99 fun p99 q99 r99=>?_
 refine kR a10 fun p10 q10 r10=>?_
 refine WL.perm ((Del.perm (r:=prB b a c st) De).trans ((Del.perm (r:=prW a c st) De).cons _)) ?_;refine xg (E3 Et Et Et) (G5 hg hp b a c st d _ 2 _ [⟨a99,c99,[A1 [83,69,81]]⟩,⟨a10,c10,a1G p.rep⟩] (A8 p.k p.name p.ch p.tg.l p.ex.l p.rep) _ (Rd.ofPt rfl (by decide) Me) (B4 (iR r99 p99 q99) (B4 (iR r10 p10 q10) H8)) (by decide) (B4 (by simp) (B4 (a9j p.rep) H8)) (by rw[e9];simp) (hT) hn) ?_;rintro _ _ ⟨a102,c102,rfl⟩;refine WL.nil (w0 (prB b a102 c102 (C5 st (d,A8 p.k p.name p.ch p.tg.l p.ex.l p.rep))::prW a102 c102 (C5 st (d,A8 p.k p.name p.ch p.tg.l p.ex.l p.rep))::h) ?_);exact⟨a102,c102,rfl⟩;replace c94:=G2 c94;refine kQ2 [0,2,4,6,7,13,103] ?_;refine wc (fun c103=>?_) fun c103=>?_
 replace c103:=G3 c103;have e9:=A8.eq_1 p.k p.name p.ch p.tg.l p.ex.l p.rep;rw[if_neg c14,if_neg c22,if_neg c30,if_neg c43,if_neg c57,if_neg c70,if_neg c83,if_neg c94,if_pos c103] at e9;refine kA2 ?_;refine xY O1 Eb fun b107=>?_
 refine xg (E1 Et) (C4 hg _ 1 _ [[80,65,82]] _ Rr (by decide) (by decide)) ?_;rintro _ _ ⟨a108,c108,_,rfl,rfl,rfl⟩;refine kA1 ?_;refine xY K7 Eb fun b110=>?_
 refine kR a108 fun p108 q108 r108=>?_
 refine kR a10 fun p10 q10 r10=>?_
 refine WL.perm ((Del.perm (r:=prB b a c st) De).trans ((Del.perm (r:=prW a c st) De).cons _)) ?_;refine xg (E3 Et Et Et) (G5 hg hp b a c st d _ 2 _ [⟨a108,c108,[A1 [80,65,82]]⟩,⟨a10,c10,a1G p.rep⟩] (A8 p.k p.name p.ch p.tg.l p.ex.l p.rep) _ (Rd.ofPt rfl (by decide) Me) (B4 (iR r108 p108 q108) (B4 (iR r10 p10 q10) H8)) (by decide) (B4 (by simp) (B4 (a9j p.rep) H8)) (by rw[e9];simp) (hT) hn) ?_;rintro _ _ ⟨a111,c111,rfl⟩;refine WL.nil (w0 (prB b a111 c111 (C5 st (d,A8 p.k p.name p.ch p.tg.l p.ex.l p.rep))::prW a111 c111 (C5 st (d,A8 p.k p.name p.ch p.tg.l p.ex.l p.rep))::h) ?_);exact⟨a111,c111,rfl⟩;replace c103:=G2 c103;refine kQ2 [0,2,4,6,7,13,112] ?_;refine wc (fun c112=>?_) fun c112=>?_
 replace c112:=G3 c112;have e9:=A8.eq_1 p.k p.name p.ch p.tg.l p.ex.l p.rep;rw[if_neg c14,if_neg c22,if_neg c30,if_neg c43,if_neg c57,if_neg c70,if_neg c83,if_neg c94,if_neg c103,if_pos c112] at e9;refine kA2 ?_;refine xY O1 Eb fun b116=>?_
 refine xg (E1 Et) (C4 hg _ 2 _ [[80,82,73],[80,65,82]] _ Rr (by decide) (by decide)) ?_;rintro _ _ ⟨a117,c117,_,rfl,rfl,rfl⟩;refine xY K7 Eb fun b118=>?_
 refine kR a117 fun p117 q117 r117=>?_
 refine WL.perm ((Del.perm (r:=prB b a c st) De).trans ((Del.perm (r:=prW a c st) De).cons _)) ?_;refine xg (E3 Et Et Et) (G5 hg hp b a c st d _ 1 _ [⟨a117,c117,[A1 [80,82,73],A1 [80,65,82]]⟩] (A8 p.k p.name p.ch p.tg.l p.ex.l p.rep) _ (Rd.ofPt rfl (by decide) Me) (B4 (iR r117 p117 q117) H8) (by decide) (B4 (by simp) H8) (by rw[e9];simp) (hT) hn) ?_;rintro _ _ ⟨a119,c119,rfl⟩;refine WL.nil (w0 (prB b a119 c119 (C5 st (d,A8 p.k p.name p.ch p.tg.l p.ex.l p.rep))::prW a119 c119 (C5 st (d,A8 p.k p.name p.ch p.tg.l p.ex.l p.rep))::h) ?_);exact⟨a119,c119,rfl⟩;replace c112:=G2 c112;refine kQ2 [0,2,4,6,7,13,120] ?_;refine wc (fun c120=>?_) fun c120=>?_
 replace c120:=G3 c120;have e9:=A8.eq_1 p.k p.name p.ch p.tg.l p.ex.l p.rep;rw[if_neg c14,if_neg c22,if_neg c30,if_neg c43,if_neg c57,if_neg c70,if_neg c83,if_neg c94,if_neg c103,if_neg c112,if_pos c120] at e9;refine kA2 ?_;refine xY O1 Eb fun b124=>?_
 refine xg (E1 Et) (C4 hg _ 2 _ [[80,76,65,67,69,68],[80,65,82]] _ Rr (by decide) (by decide)) ?_;rintro _ _ ⟨a125,c125,_,rfl,rfl,rfl⟩;refine xY K7 Eb fun b126=>?_
 refine kR a125 fun p125 q125 r125=>?_
 refine WL.perm ((Del.perm (r:=prB b a c st) De).trans ((Del.perm (r:=prW a c st) De).cons _)) ?_;refine xg (E3 Et Et Et) (G5 hg hp b a c st d _ 1 _ [⟨a125,c125,[A1 [80,76,65,67,69,68],A1 [80,65,82]]⟩] (A8 p.k p.name p.ch p.tg.l p.ex.l p.rep) _ (Rd.ofPt rfl (by decide) Me) (B4 (iR r125 p125 q125) H8) (by decide) (B4 (by simp) H8) (by rw[e9];simp) (hT) hn) ?_;rintro _ _ ⟨a127,c127,rfl⟩;refine WL.nil (w0 (prB b a127 c127 (C5 st (d,A8 p.k p.name p.ch p.tg.l p.ex.l p.rep))::prW a127 c127 (C5 st (d,A8 p.k p.name p.ch p.tg.l p.ex.l p.rep))::h) ?_);exact⟨a127,c127,rfl⟩;replace c120:=G2 c120;refine kQ2 [0,2,4,6,7,13,128] ?_;refine wc (fun c128=>?_) fun c128=>?_
 replace c128:=G3 c128;have e9:=A8.eq_1 p.k p.name p.ch p.tg.l p.ex.l p.rep;rw[if_neg c14,if_neg c22,if_neg c30,if_neg c43,if_neg c57,if_neg c70,if_neg c83,if_neg c94,if_neg c103,if_neg c112,if_neg c120,if_pos c128] at e9;refine kA2 ?_;refine xY O1 Eb fun b132=>?_
 refine xg (E1 Et) (C4 hg _ 1 _ [[65,76,84]] _ Rr (by decide) (by decide)) ?_;rintro _ _ ⟨a133,c133,_,rfl,rfl,rfl⟩;refine kA1 ?_;refine xY K7 Eb fun b135=>?_
 refine kR a133 fun p133 q133 r133=>?_
 refine kR a10 fun p10 q10 r10=>?_
 refine WL.perm ((Del.perm (r:=prB b a c st) De).trans ((Del.perm (r:=prW a c st) De).cons _)) ?_;refine xg (E3 Et Et Et) (G5 hg hp b a c st d _ 2 _ [⟨a133,c133,[A1 [65,76,84]]⟩,⟨a10,c10,a1G p.rep⟩] (A8 p.k p.name p.ch p.tg.l p.ex.l p.rep) _ (Rd.ofPt rfl (by decide) Me) (B4 (iR r133 p133 q133) (B4 (iR r10 p10 q10) H8)) (by decide) (B4 (by simp) (B4 (a9j p.rep) H8)) (by rw[e9];simp) (hT) hn) ?_;rintro _ _ ⟨a136,c136,rfl⟩;refine WL.nil (w0 (prB b a136 c136 (C5 st (d,A8 p.k p.name p.ch p.tg.l p.ex.l p.rep))::prW a136 c136 (C5 st (d,A8 p.k p.name p.ch p.tg.l p.ex.l p.rep))::h) ?_);exact⟨a136,c136,rfl⟩;replace c128:=G2 c128;refine kQ2 [0,2,4,6,7,13,137] ?_;refine wc (fun c137=>?_) fun c137=>?_
 replace c137:=G3 c137;have e9:=A8.eq_1 p.k p.name p.ch p.tg.l p.ex.l p.rep;rw[if_neg c14,if_neg c22,if_neg c30,if_neg c43,if_neg c57,if_neg c70,if_neg c83,if_neg c94,if_neg c103,if_neg c112,if_neg c120,if_neg c128,if_pos c137] at e9;refine kA2 ?_;refine xY O1 Eb fun b141=>?_
 refine xg (E1 Et) (C4 hg _ 2 _ [[80,82,73],[65,76,84]] _ Rr (by decide) (by decide)) ?_;rintro _ _ ⟨a142,c142,_,rfl,rfl,rfl⟩;refine kA1 ?_;refine xY K7 Eb fun b144=>?_
 refine kR a142 fun p142 q142 r142=>?_
 refine kR a10 fun p10 q10 r10=>?_
 refine WL.perm ((Del.perm (r:=prB b a c st) De).trans ((Del.perm (r:=prW a c st) De).cons _)) ?_;refine xg (E3 Et Et Et) (G5 hg hp b a c st d _ 2 _ [⟨a142,c142,[A1 [80,82,73],A1 [65,76,84]]⟩,⟨a10,c10,a1G p.rep⟩] (A8 p.k p.name p.ch p.tg.l p.ex.l p.rep) _ (Rd.ofPt rfl (by decide) Me) (B4 (iR r142 p142 q142) (B4 (iR r10 p10 q10) H8)) (by decide) (B4 (by simp) (B4 (a9j p.rep) H8)) (by rw[e9];simp) (hT) hn) ?_;rintro _ _ ⟨a145,c145,rfl⟩;refine WL.nil (w0 (prB b a145 c145 (C5 st (d,A8 p.k p.name p.ch p.tg.l p.ex.l p.rep))::prW a145 c145 (C5 st (d,A8 p.k p.name p.ch p.tg.l p.ex.l p.rep))::h) ?_);exact⟨a145,c145,rfl⟩;replace c137:=G2 c137;refine kQ2 [0,2,4,6,7,13,146] ?_;refine wc (fun c146=>?_) fun c146=>?_
 replace c146:=G3 c146;have e9:=A8.eq_1 p.k p.name p.ch p.tg.l p.ex.l p.rep;rw[if_neg c14,if_neg c22,if_neg c30,if_neg c43,if_neg c57,if_neg c70,if_neg c83,if_neg c94,if_neg c103,if_neg c112,if_neg c120,if_neg c128,if_neg c137,if_pos c146] at e9;refine kA2 ?_;refine xY O1 Eb fun b150=>?_
 refine xg (E1 Et) (C4 hg _ 1 _ [[73,70]] _ Rr (by decide) (by decide)) ?_;rintro _ _ ⟨a151,c151,_,rfl,rfl,rfl⟩;refine kA1 ?_;refine xY K7 Eb fun b153=>?_
 refine kR a151 fun p151 q151 r151=>?_
 refine kR a10 fun p10 q10 r10=>?_
 refine WL.perm ((Del.perm (r:=prB b a c st) De).trans ((Del.perm (r:=prW a c st) De).cons _)) ?_;refine xg (E3 Et Et Et) (G5 hg hp b a c st d _ 2 _ [⟨a151,c151,[A1 [73,70]]⟩,⟨a10,c10,a1G p.rep⟩] (A8 p.k p.name p.ch p.tg.l p.ex.l p.rep) _ (Rd.ofPt rfl (by decide) Me) (B4 (iR r151 p151 q151) (B4 (iR r10 p10 q10) H8)) (by decide) (B4 (by simp) (B4 (a9j p.rep) H8)) (by rw[e9];simp) (hT) hn) ?_;rintro _ _ ⟨a154,c154,rfl⟩;refine WL.nil (w0 (prB b a154 c154 (C5 st (d,A8 p.k p.name p.ch p.tg.l p.ex.l p.rep))::prW a154 c154 (C5 st (d,A8 p.k p.name p.ch p.tg.l p.ex.l p.rep))::h) ?_);exact⟨a154,c154,rfl⟩;replace c146:=G2 c146;refine kQ2 [0,2,4,7,13,155] ?_;refine wc (fun c155=>?_) fun c155=>?_
 replace c155:=G3 c155;have e9:=A8.eq_1 p.k p.name p.ch p.tg.l p.ex.l p.rep;rw[if_neg c14,if_neg c22,if_neg c30,if_neg c43,if_neg c57,if_neg c70,if_neg c83,if_neg c94,if_neg c103,if_neg c112,if_neg c120,if_neg c128,if_neg c137,if_neg c146,if_pos c155] at e9;refine kA2 ?_;refine xY O1 Eb fun b159=>?_
 refine xg (E1 Et) (C4 hg _ 1 _ [[67,65,83,69]] _ Rr (by decide) (by decide)) ?_;rintro _ _ ⟨a160,c160,_,rfl,rfl,rfl⟩;refine kA1 ?_;refine F8 (Ev.tmp rfl) (E1 Ek) (a1v hg b4 p [] _ Me (hO.ex.mono Sb) hEx) Lb ?_;rintro _ _ ⟨a162,c162,_,rfl,rfl,rfl⟩;refine xY K7 Eb fun b163=>?_
 refine kR a160 fun p160 q160 r160=>?_
 refine kR a162 fun p162 q162 r162=>?_
 refine WL.perm ((Del.perm (r:=prB b a c st) De).trans ((Del.perm (r:=prW a c st) De).cons _)) ?_;refine xg (E3 Et Et Et) (G5 hg hp b a c st d _ 2 _ [⟨a160,c160,[A1 [67,65,83,69]]⟩,⟨a162,c162,D2 [] E5 p.ex.l⟩] (A8 p.k p.name p.ch p.tg.l p.ex.l p.rep) _ (Rd.ofPt rfl (by decide) Me) (B4 (iR r160 p160 q160) (B4 (iR r162 p162 q162) H8)) (by decide) (B4 (by simp) (B4 (a0s [] p.ex.l (by omega)) H8)) (by rw[e9];simp) (hT) hn) ?_;rintro _ _ ⟨a164,c164,rfl⟩;refine WL.nil (w0 (prB b a164 c164 (C5 st (d,A8 p.k p.name p.ch p.tg.l p.ex.l p.rep))::prW a164 c164 (C5 st (d,A8 p.k p.name p.ch p.tg.l p.ex.l p.rep))::h) ?_);exact⟨a164,c164,rfl⟩;replace c155:=G2 c155;refine kQ2 [0,2,4,7,13,165] ?_;refine wc (fun c165=>?_) fun c165=>?_
 replace c165:=G3 c165;have e9:=A8.eq_1 p.k p.name p.ch p.tg.l p.ex.l p.rep;rw[if_neg c14,if_neg c22,if_neg c30,if_neg c43,if_neg c57,if_neg c70,if_neg c83,if_neg c94,if_neg c103,if_neg c112,if_neg c120,if_neg c128,if_neg c137,if_neg c146,if_neg c155,if_pos c165] at e9;refine kA2 ?_;refine xY O1 Eb fun b169=>?_
 refine xg (E1 Et) (C4 hg _ 1 _ [[87,72,73,76,69]] _ Rr (by decide) (by decide)) ?_;rintro _ _ ⟨a170,c170,_,rfl,rfl,rfl⟩;refine kA1 ?_;refine F8 (Ev.tmp rfl) (E1 Ek) (a1v hg b4 p [] _ Me (hO.ex.mono Sb) hEx) Lb ?_;rintro _ _ ⟨a172,c172,_,rfl,rfl,rfl⟩;refine xY K7 Eb fun b173=>?_
 refine kR a170 fun p170 q170 r170=>?_
 refine kR a172 fun p172 q172 r172=>?_
 refine WL.perm ((Del.perm (r:=prB b a c st) De).trans ((Del.perm (r:=prW a c st) De).cons _)) ?_;refine xg (E3 Et Et Et) (G5 hg hp b a c st d _ 2 _ [⟨a170,c170,[A1 [87,72,73,76,69]]⟩,⟨a172,c172,D2 [] E5 p.ex.l⟩] (A8 p.k p.name p.ch p.tg.l p.ex.l p.rep) _ (Rd.ofPt rfl (by decide) Me) (B4 (iR r170 p170 q170) (B4 (iR r172 p172 q172) H8)) (by decide) (B4 (by simp) (B4 (a0s [] p.ex.l (by omega)) H8)) (by rw[e9];simp) (hT) hn) ?_;rintro _ _ ⟨a174,c174,rfl⟩;refine WL.nil (w0 (prB b a174 c174 (C5 st (d,A8 p.k p.name p.ch p.tg.l p.ex.l p.rep))::prW a174 c174 (C5 st (d,A8 p.k p.name p.ch p.tg.l p.ex.l p.rep))::h) ?_);exact⟨a174,c174,rfl⟩;replace c165:=G2 c165;refine kQ2 [0,2,4,7,175] ?_;refine wc (fun c175=>?_) fun c175=>?_
 replace c175:=G3 c175;have e9:=A8.eq_1 p.k p.name p.ch p.tg.l p.ex.l p.rep;rw[if_neg c14,if_neg c22,if_neg c30,if_neg c43,if_neg c57,if_neg c70,if_neg c83,if_neg c94,if_neg c103,if_neg c112,if_neg c120,if_neg c128,if_neg c137,if_neg c146,if_neg c155,if_neg c165] at e9;refine kA4 ?_;refine xg (E1 Et) (a1V p.name _ _) ?_;rintro _ _ ⟨a181,c181,_,rfl,rfl,rfl⟩;refine xY O1 Eb fun b182=>?_
 refine xg (E1 Et) (C4 hg _ 1 _ [[40]] _ Rr (by decide) (by decide)) ?_;rintro _ _ ⟨a183,c183,_,rfl,rfl,rfl⟩;refine kA1 ?_;refine F8 (Ev.tmp rfl) (E1 Ek) (a1v hg b4 p [44] _ Me (hO.ex.mono Sb) hEx) Lb ?_;rintro _ _ ⟨a185,c185,_,rfl,rfl,rfl⟩;refine xY O1 Eb fun b186=>?_
 refine xg (E1 Et) (C4 hg _ 1 _ [[41]] _ Rr (by decide) (by decide)) ?_;rintro _ _ ⟨a187,c187,_,rfl,rfl,rfl⟩;refine xY K7 Eb fun b188=>?_
 refine kR a181 fun p181 q181 r181=>?_
 refine kR a183 fun p183 q183 r183=>?_
 refine kR a185 fun p185 q185 r185=>?_
 refine kR a187 fun p187 q187 r187=>?_
 refine WL.perm ((Del.perm (r:=prB b a c st) De).trans ((Del.perm (r:=prW a c st) De).cons _)) ?_;refine xg (E3 Et Et Et) (G5 hg hp b a c st d _ 4 _ [⟨a181,c181,[O9 p.name]⟩,⟨a183,c183,[A1 [40]]⟩,⟨a185,c185,D2 [44] E5 p.ex.l⟩,⟨a187,c187,[A1 [41]]⟩] (A8 p.k p.name p.ch p.tg.l p.ex.l p.rep) _ (Rd.ofPt rfl (by decide) Me) (B4 (iR r181 p181 q181) (B4 (iR r183 p183 q183) (B4 (iR r185 p185 q185) (B4 (iR r187 p187 q187) H8)))) (by decide) (B4 (by simp) (B4 (by simp) (B4 (a0s [44] p.ex.l (by omega)) (B4 (by simp) H8)))) (by rw[e9];simp) (hT) hn) ?_;rintro _ _ ⟨a189,c189,rfl⟩;refine WL.nil (w0 (prB b a189 c189 (C5 st (d,A8 p.k p.name p.ch p.tg.l p.ex.l p.rep))::prW a189 c189 (C5 st (d,A8 p.k p.name p.ch p.tg.l p.ex.l p.rep))::h) ?_);exact⟨a189,c189,rfl⟩;replace c175:=G2 c175;omega
end
section
open Go.Eng Go.Pc Go.Sx Go
open Go.Xp hiding B C2
open Go.Ty (Ty Vr Tok eqT tyV I9 B3 B5 T9 zeroK N3 D5 encV D9 prL prV PrOk VOk mayPr hdV)
open Go.Lx (encB C9 textO)
open Go.Ly (Rw I6 C6)
theorem a1o:TkL []:=fun _ hx=>(List.not_mem_nil hx).elim
theorem G6 {a b:List Tok} (ha:TkL a) (hb:TkL b):TkL (a++b):=fun x hx=>(List.mem_append.1 hx).elim (ha x) (hb x)
theorem a7i {t:Tok} {b:List Tok} (ha:TkL [t]) (hb:TkL b):TkL (t::b):=fun x hx=>(List.mem_cons.1 hx).elim (fun e=>ha x (List.mem_singleton.2 e)) (hb x)
theorem a3E {k p:Int} {s:B} (h:s.length<=Big):TkL [⟨k,p.toNat,s,0⟩]:=fun x hx=>by
 rw[List.mem_singleton] at hx;subst hx;exact⟨(show(-2147483648:Int)<=0/\(0:Int)<=2147483647 by decide),h⟩
theorem W6 {s:B} (h:s.length<=Big):TkL [A1 s]:=by
 unfold A1;split
 ·exact a3E (p:=0) h
 ·exact a3E (p:=0) h
theorem b01 {s:B} (h:s.length<=Big):TkL [O9 s]:=a3E (p:=0) h
theorem a2C {m:View} {h:List Res} {e:Ex} (q:EOk m h e):TkL (E5 e):=by
 unfold E5;split
 ·rename_i hm
  exact fun x hx=>⟨(b0N e (a5P hm).1 q.w x hx).2,by have:=Go.Lx.may_len (b0N e (a5P hm).1 q.w x hx).1;omega⟩
 ·exact a1o
theorem b2D {α:Type} {sep:B} (hs:sep.length<=Big) {f:α->List Tok}:∀ {l:List α},(∀ x ∈ l,TkL (f x))->TkL (D2 sep f l)
 | [],_=>a1o
 | [x],h=>h x (List.Mem.head _)
 | x::_::_,h=>G6 (h x (List.Mem.head _)) (a7i (a3E (p:=0) hs) (b2D hs fun z hz=>h z (List.Mem.tail _ hz)))
theorem a1O {m:View} {h:List Res} {sep:B} (hs:sep.length<=Big) {s:Sli Ex} (q:LOk m h s):TkL (D2 sep E5 s.l):=b2D hs fun x hx=>a2C (q.ok x hx)
theorem c4C {s:B} (hs:s.length<=Big) {l:List Tok} (q:TkL l):TkL (a2o s l):=by
 unfold a2o;split
 ·exact a1o
 ·exact a7i (W6 hs) q
theorem c7j {m:View} {h:List Res} {r:Rp} (q:Rs m h r):TkL (a1G r):=by
 unfold a1G;split
 ·exact a1o
 ·exact G6 (G6 (G6 (G6 (b01 q.n) (W6 (by decide))) (a2C q.b)) (W6 (by decide))) (a2C q.c)
theorem O0 {c:Prop} [Decidable c] {a b:List Tok} (ha:TkL a) (hb:TkL b):TkL (if c then a else b):=by
 split
 ·exact ha
 ·exact hb
theorem b7P {m:View} {h:List Res} {p:Pr} (q:P1 m h p):TkL (A8 p.k p.name p.ch p.tg.l p.ex.l p.rep):=by
 have hr:TkL (a1G p.rep):=c7j (m:=m) (h:=h) ⟨q.rn,q.rb,q.rc⟩;have w1:∀ {s:B},s.length<=1000->TkL [A1 s]:=fun h=>W6 (Nat.le_trans h (by decide))
 have w2:∀ {s t:B},s.length<=1000->t.length<=1000->TkL [A1 s,A1 t]:=fun h h2=>a7i (w1 h) (w1 h2)
 unfold A8;exact O0 (w1 (by decide)) (O0 (w1 (by decide)) (O0 (G6 (G6 (a1O (by decide) q.tg) (w1 (by decide))) (a1O (by decide) q.ex)) (O0 (G6 (G6 (a2C q.ch) (w1 (by decide))) (a1O (by decide) q.tg)) (O0 (G6 (G6 (a2C q.ch) (w1 (by decide))) (a1O (by decide) q.ex)) (O0 (G6 (G6 (a2C q.ch) (w2 (by decide) (by decide))) (a1O (by decide) q.ex)) (O0 (G6 (a2C q.ch) (w2 (by decide) (by decide))) (O0 (G6 (w1 (by decide)) hr) (O0 (G6 (w1 (by decide)) hr) (O0 (w2 (by decide) (by decide)) (O0 (w2 (by decide) (by decide)) (O0 (G6 (w1 (by decide)) hr) (O0 (G6 (w2 (by decide) (by decide)) hr) (O0 (G6 (w1 (by decide)) hr) (O0 (G6 (w1 (by decide)) (a1O (by decide) q.ex)) (O0 (G6 (w1 (by decide)) (a1O (by decide) q.ex)) (G6 (G6 (G6 (b01 q.n) (w1 (by decide))) (a1O (by decide) q.ex)) (w1 (by decide))))))))))))))))))
theorem a9o {m:View} {h:List Res} {e:Ex} (q:EOk m h e):TkL (a0A e):=by
 unfold a0A;split
 ·exact a1o
 ·exact G6 (a2C q) (a3E (p:=0) (by decide))
theorem b8C {m:View} {h:List Res} {g:Gu} (q:GOk m h g):TkL (H3 g.k g.name g.cond g.ch g.tg.l g.vl.l g.time):=by
 have w1:∀ {s:B},s.length<=1000->TkL [A1 s]:=fun h=>W6 (Nat.le_trans h (by decide))
 unfold H3;exact O0 (a2C q.cond) (O0 (G6 (a9o q.cond) (w1 (by decide))) (O0 (G6 (G6 (G6 (a9o q.cond) (a2C q.ch)) (w1 (by decide))) (a1O (by decide) q.tg)) (O0 (G6 (G6 (G6 (a9o q.cond) (a2C q.ch)) (a7i (w1 (by decide)) (w1 (by decide)))) (a2C q.time)) (O0 (a1O (by decide) q.vl) (O0 (w1 (by decide)) (G6 (b01 q.n) (c4C (by decide) (a1O (by decide) q.tg))))))))
theorem b1E (e:Ex):(a0A e).length<=30000:=by
 unfold a0A;have:=L1 e;split
 ·exact Nat.zero_le _
 ·rw[List.length_append]
  simp only[List.length_singleton];omega
theorem b65 (s:B) {l:List Tok} (h:l.length<=25000):(a2o s l).length<=30000:=by
 unfold a2o;split
 ·exact Nat.zero_le _
 ·simp only[List.length_cons]
  omega
theorem a6H (sep:B) (l:List Ex) (h:l.length<=9):(D2 sep E5 l).length<=25000:=by
 have h1:=a2V sep E5 2000 l fun x _=>L1 x
 have h2:l.length * 2001<=9 * 2001:=Nat.mul_le_mul_right _ h;omega
theorem c1b {g:Gu} (h:guP g=true) (h0:0<=g.k):(1<=g.k/\g.k<=7)/\g.bl.length=1/\g.tg.l.length<=8/\g.vl.l.length<=8:=by
 unfold guP at h;simp only[Bool.and_eq_true,bne_iff_ne,ne_eq,decide_eq_true_eq,beq_iff_eq] at h;obtain⟨⟨⟨⟨⟨⟨⟨⟨h1,h2⟩,h3⟩,-⟩,-⟩,-⟩,-⟩,h4⟩,h5⟩:=h;have h4:=(V9 h4).2.2;have h5:=(V9 h5).2.2;refine⟨⟨by omega,h2⟩,by omega,?_,?_⟩
 ·have:(if g.k=3 then (8:Int) else if g.k=7 then 8 else 0)<=8:=by repeat' split <;> omega
  omega
 ·have:(if g.k=5 then (8:Int) else 0)<=8:=by split <;> omega
  omega
theorem b7w (g:Gu) (d:Int):Z6 g d=(d,H3 g.k g.name g.cond g.ch g.tg.l g.vl.l g.time)::a1W g.bl (d+1):=by cases g;rfl
abbrev PRC (m:View) (p:Pr):Prop:=∀ (b:Nat) (a:Option Addr) (c:Nat) (st:Ps) (d:Int) (h:List Res),POk m h p->Vld p->(0<=d/\d+2 * (P9 p:Int)<=100000)->st.1.length<=2049 ->
 CT Tryz.prog 54 [ptV b,prV p,.int .i64 d] (prB b a c st::prW a c st::h) m (fun _ _ h'=>PrR b h (B6 st (G8 p d)) h')
set_option maxHeartbeats 4000000 in
theorem b7M {m:View} (hg:Glob m) (hp:Pow m) (g:Gu) (b:Nat) (a:Option Addr) (c:Nat) (st:Ps) (d:Int) (h:List Res) (hO:GOk m h g) (hu:guP g=true) (hS:∀ x ∈ g.bl,POk m h x/\Vld x/\PRC m x/\d+1+2 * (P9 x:Int)<=100000) (hd:0<=d/\d<=100000) (hn:st.1.length<=2049) :
 CT Tryz.prog 108 [ptV b,guV g,.int .i64 d] (prB b a c st::prW a c st::h) m (fun _ _ h'=>PrR b h (B6 st (Z6 g d)) h'):=by
 obtain⟨hk,hbl,hTg,hVl⟩:=c1b hu hO.k.1;have hT:=b8C hO;have hrb:=hO.b;obtain⟨y,hy⟩:=A3 (l:=g.bl) (k:=0) (by omega);have hym:=List.mem_of_getElem? hy;obtain⟨hy1,hy2,hy3,hy4⟩:=hS y hym;have hcy:=a6c y;have hlg:Z6 g d=(d,H3 g.k g.name g.cond g.ch g.tg.l g.vl.l g.time)::G8 y (d+1):=by
  have e:g.bl=[y]:=by
   cases hb:g.bl with
   | nil=>rw[hb] at hy;cases hy
   | cons z r=>
    rw[hb] at hy hbl;cases hy;cases r with
    | nil=>rfl
    | cons u v=>simp at hbl
  rw[b7w,e];rfl
 refine CT.body Tryz.call108 Tryz.func108 rfl Tryz.ntmps108 Lb rfl ?_;refine j0 ?_;refine xX fun b4=>?_
 refine kQ0 [0,2,4] ?_;refine WL.addNil 120 4 ?_;refine kQ1 [0,2,4,6] ?_;refine kA2 ?_;refine xf (E1 Et) (a2n g.cond (hO.cond.t.mono Sb)) ?_;refine kP1 [0,2,4,6,11] ?_;refine I1 KKh [0,2,4] rfl (fun F' h'=>∃ a6:Option Addr,∃ c6:Nat,∃ L:List Tok,(L=a0A g.cond)/\F'=[(6,.slice a6 L.length c6)]/\.row (.slice a6 L.length c6) 120 4 L.length (fl B3 L)::.pt b4 (.cells (guE g).toArray 102 (0,0))::prB b a c st::prW a c st::h=h') ?_ ?_;refine jE ?_;refine wc (fun c11=>?_) fun c11=>?_
 have e11:a0A g.cond=E5 g.cond++[⟨5,0,[38],0⟩]:=by unfold a0A;rw[if_neg (by simpa using c11)]
 have hln:(E5 g.cond++[(⟨5,0,[38],0⟩:Tok)]).length=(E5 g.cond).length+1:=List.length_append;have htl:=L1 g.cond;refine kA2 ?_;refine xg (E1 Et) (J2 hg g.cond _ (hO.cond.mono Sb)) ?_;rintro _ _ ⟨a14,c14,_,rfl,rfl,rfl⟩;refine xf (E1 Ek) (H2 _ _ _) ?_;refine xY A7 Eb fun b16=>?_
 refine xD A7 (Ev.tmp rfl) (Ev.tmp rfl) (show(E5 g.cond).length+1=(E5 g.cond++[(⟨5,0,[38],0⟩:Tok)]).length from hln.symm) (F5 (enc:=B3) _ (⟨5,0,[38],0⟩)) fun a17 c17=>?_
 refine kA1 ?_;refine WL.nil (D0 [(6,.slice a17 (E5 g.cond++[(⟨5,0,[38],0⟩:Tok)]).length c17)] (h'':=.row (.slice a17 (E5 g.cond++[(⟨5,0,[38],0⟩:Tok)]).length c17) 120 4 (E5 g.cond++[(⟨5,0,[38],0⟩:Tok)]).length (fl B3 (E5 g.cond++[(⟨5,0,[38],0⟩:Tok)]))::.pt b4 (.cells (guE g).toArray 102 (0,0))::prB b a c st::prW a c st::h) ?_ Su Sb ⟨a17,c17,E5 g.cond++[(⟨5,0,[38],0⟩:Tok)],e11.symm,rfl,rfl⟩);exact Su;have e11:a0A g.cond=[]:=by unfold a0A;rw[if_pos (by simpa using c11)]
 refine WC.skip (D0 [(6,.slice none ([]).length 0)] (h'':=.row (.slice none ([]).length 0) 120 4 ([]).length (fl B3 ([]))::.pt b4 (.cells (guE g).toArray 102 (0,0))::prB b a c st::prW a c st::h) ?_ Su Sb ⟨none,0,[],e11.symm,rfl,rfl⟩);exact Su;rintro _ _ ⟨a6,c6,L,hL,rfl,rfl⟩;refine B2 rfl ?_;subst hL;refine kA2 ?_;refine xg (E3 Et Ek Ef) (a3c 163 E5 [59] _ _ _ g.tg.l _ (hO.tg.rd.mono Vl Sb) (by omega) (fun x _=>Nat.le_trans (L1 x) (by decide)) (fun x hx h2 hh=>J2 hg x h2 ((hO.tg.ok x hx).mono (List.Sublist.trans Sb hh)))) ?_;rintro _ _ ⟨a20,c20,_,rfl,rfl,rfl⟩;refine kQ1 [0,2,4,6,7] ?_;refine kP2 [0,2,4,6,7,22] ?_;refine I1 KKh [0,2,4] rfl (fun F' h'=>∃ a9:Option Addr,∃ c9:Nat,(True)/\F'=[]/\prB b a9 c9 (C5 st (d,H3 g.k g.name g.cond g.ch g.tg.l g.vl.l g.time))::prW a9 c9 (C5 st (d,H3 g.k g.name g.cond g.ch g.tg.l g.vl.l g.time))::.pt b4 (.cells (guE g).toArray 102 (0,0))::h=h') ?_ ?_
 refine kQ2 [0,2,4,6,7,22,23] ?_;refine wc (fun c23=>?_) fun c23=>?_
 replace c23:=G3 c23;have e9:=H3.eq_1 g.k g.name g.cond g.ch g.tg.l g.vl.l g.time;rw[if_pos c23] at e9;refine kA4 ?_;refine xg (E1 Et) (J2 hg g.cond _ (hO.cond.mono Sb)) ?_;rintro _ _ ⟨a29,c29,_,rfl,rfl,rfl⟩;refine xY K7 Eb fun b30=>?_
 refine kR a29 fun p29 q29 r29=>?_
 refine WL.perm ((Del.perm (r:=prB b a c st) De).trans ((Del.perm (r:=prW a c st) De).cons _)) ?_;refine xg (E3 Et Et Et) (G5 hg hp b a c st d _ 1 _ [⟨a29,c29,E5 g.cond⟩] (H3 g.k g.name g.cond g.ch g.tg.l g.vl.l g.time) _ (Rd.ofPt rfl (by decide) Me) (B4 (iR r29 p29 q29) H8) (by decide) (B4 (Nat.le_trans (L1 _) (by decide)) H8) (by rw[e9];simp) (hT) hn) ?_;rintro _ _ ⟨a31,c31,rfl⟩;refine WL.nil (D0 [] (h'':=prB b a31 c31 (C5 st (d,H3 g.k g.name g.cond g.ch g.tg.l g.vl.l g.time))::prW a31 c31 (C5 st (d,H3 g.k g.name g.cond g.ch g.tg.l g.vl.l g.time))::.pt b4 (.cells (guE g).toArray 102 (0,0))::h) ?_ Su Sb ⟨a31,c31,by trivial,rfl,rfl⟩);exact Su;replace c23:=G2 c23;refine kQ2 [0,2,4,6,7,22,32] ?_;refine wc (fun c32=>?_) fun c32=>?_
 replace c32:=G3 c32;have e9:=H3.eq_1 g.k g.name g.cond g.ch g.tg.l g.vl.l g.time;rw[if_neg c23,if_pos c32] at e9;refine kA3 ?_;refine xY O1 Eb fun b37=>?_
 refine xg (E1 Et) (C4 hg _ 1 _ [[83,75,73,80]] _ Rr (by decide) (by decide)) ?_;rintro _ _ ⟨a38,c38,_,rfl,rfl,rfl⟩;refine xY K7 Eb fun b39=>?_
 refine kR a6 fun p6 q6 r6=>?_
 refine kR a38 fun p38 q38 r38=>?_
 refine WL.perm ((Del.perm (r:=prB b a c st) De).trans ((Del.perm (r:=prW a c st) De).cons _)) ?_;refine xg (E3 Et Et Et) (G5 hg hp b a c st d _ 2 _ [⟨a6,c6,a0A g.cond⟩,⟨a38,c38,[A1 [83,75,73,80]]⟩] (H3 g.k g.name g.cond g.ch g.tg.l g.vl.l g.time) _ (Rd.ofPt rfl (by decide) Me) (B4 (iR r6 p6 q6) (B4 (iR r38 p38 q38) H8)) (by decide) (B4 (b1E _) (B4 (by simp) H8)) (by rw[e9];simp) (hT) hn) ?_;rintro _ _ ⟨a40,c40,rfl⟩;refine WL.nil (D0 [] (h'':=prB b a40 c40 (C5 st (d,H3 g.k g.name g.cond g.ch g.tg.l g.vl.l g.time))::prW a40 c40 (C5 st (d,H3 g.k g.name g.cond g.ch g.tg.l g.vl.l g.time))::.pt b4 (.cells (guE g).toArray 102 (0,0))::h) ?_ Su Sb ⟨a40,c40,by trivial,rfl,rfl⟩);exact Su;replace c32:=G2 c32;refine kQ2 [0,2,4,6,7,22,41] ?_;refine wc (fun c41=>?_) fun c41=>?_
 replace c41:=G3 c41;have e9:=H3.eq_1 g.k g.name g.cond g.ch g.tg.l g.vl.l g.time;rw[if_neg c23,if_neg c32,if_pos c41] at e9;refine kA5 ?_;refine xg (E1 Et) (J2 hg g.ch _ (hO.ch.mono Sb)) ?_;rintro _ _ ⟨a48,c48,_,rfl,rfl,rfl⟩;refine xY O1 Eb fun b49=>?_
 refine xg (E1 Et) (C4 hg _ 1 _ [[63]] _ Rr (by decide) (by decide)) ?_;rintro _ _ ⟨a50,c50,_,rfl,rfl,rfl⟩;refine kA1 ?_;refine xY K7 Eb fun b52=>?_
 refine kR a6 fun p6 q6 r6=>?_
 refine kR a48 fun p48 q48 r48=>?_
 refine kR a50 fun p50 q50 r50=>?_
 refine kR a20 fun p20 q20 r20=>?_
 refine WL.perm ((Del.perm (r:=prB b a c st) De).trans ((Del.perm (r:=prW a c st) De).cons _)) ?_;refine xg (E3 Et Et Et) (G5 hg hp b a c st d _ 4 _ [⟨a6,c6,a0A g.cond⟩,⟨a48,c48,E5 g.ch⟩,⟨a50,c50,[A1 [63]]⟩,⟨a20,c20,D2 [59] E5 g.tg.l⟩] (H3 g.k g.name g.cond g.ch g.tg.l g.vl.l g.time) _ (Rd.ofPt rfl (by decide) Me) (B4 (iR r6 p6 q6) (B4 (iR r48 p48 q48) (B4 (iR r50 p50 q50) (B4 (iR r20 p20 q20) H8)))) (by decide) (B4 (b1E _) (B4 (Nat.le_trans (L1 _) (by decide)) (B4 (by simp) (B4 (Nat.le_trans (a6H [59] g.tg.l (by omega)) (by decide)) H8)))) (by rw[e9];simp) (hT) hn) ?_;rintro _ _ ⟨a53,c53,rfl⟩;refine WL.nil (D0 [] (h'':=prB b a53 c53 (C5 st (d,H3 g.k g.name g.cond g.ch g.tg.l g.vl.l g.time))::prW a53 c53 (C5 st (d,H3 g.k g.name g.cond g.ch g.tg.l g.vl.l g.time))::.pt b4 (.cells (guE g).toArray 102 (0,0))::h) ?_ Su Sb ⟨a53,c53,by trivial,rfl,rfl⟩);exact Su;replace c41:=G2 c41
 refine kQ2 [0,2,4,6,7,22,54] ?_;refine wc (fun c54=>?_) fun c54=>?_
 replace c54:=G3 c54;have e9:=H3.eq_1 g.k g.name g.cond g.ch g.tg.l g.vl.l g.time;rw[if_neg c23,if_neg c32,if_neg c41,if_pos c54] at e9;refine jE ?_;refine a0j [5,6,7,4096] (.op 0 (.op 1 (.op 2 (.op 3 (.op 4 (.op 8 (.op 9 (.op 5 (.op 6 (.op 7 .nil)))))))))) [10,11,12] _ [] D7 (fun _ _ _ h=>a1m h) [0,1,2] (by kernel_rfl) ?_;refine kA7 ?_;refine H0 rfl rfl Ef (E1 Et) (fun fr=>J2 hg g.ch _ (hO.ch.mono Sb)) Lb fun a61 c61=>?_
 refine sB rfl O1 fun b62=>?_
 refine H0 rfl rfl Ef (E1 (Ev.tmp rfl)) (fun fr=>C4 hg _ 2 _ [[63],[65,70,84,69,82]] _ (Rd.fr Rr fr) (by decide) (by decide)) Lb fun a63 c63=>?_
 refine SR.nil rfl rfl ?_;refine xg (E1 Et) (J2 hg g.time _ (hO.time.mono Sb)) ?_;rintro _ _ ⟨a66,c66,_,rfl,rfl,rfl⟩;refine xY K7 Eb fun b67=>?_
 refine kR a6 fun p6 q6 r6=>?_
 refine kR a61 fun p61 q61 r61=>?_
 refine kR a63 fun p63 q63 r63=>?_
 refine kR a66 fun p66 q66 r66=>?_
 refine WL.perm ((Del.perm (r:=prB b a c st) De).trans ((Del.perm (r:=prW a c st) De).cons _)) ?_;refine xg (E3 Et Et Et) (G5 hg hp b a c st d _ 4 _ [⟨a6,c6,a0A g.cond⟩,⟨a61,c61,E5 g.ch⟩,⟨a63,c63,[A1 [63],A1 [65,70,84,69,82]]⟩,⟨a66,c66,E5 g.time⟩] (H3 g.k g.name g.cond g.ch g.tg.l g.vl.l g.time) _ (Rd.ofPt rfl (by decide) Me) (B4 (iR r6 p6 q6) (B4 (iR r61 p61 q61) (B4 (iR r63 p63 q63) (B4 (iR r66 p66 q66) H8)))) (by decide) (B4 (b1E _) (B4 (Nat.le_trans (L1 _) (by decide)) (B4 (by simp) (B4 (Nat.le_trans (L1 _) (by decide)) H8)))) (by rw[e9];simp) (hT) hn) ?_;rintro _ _ ⟨a68,c68,rfl⟩;refine WL.nil (D0 [] (h'':=prB b a68 c68 (C5 st (d,H3 g.k g.name g.cond g.ch g.tg.l g.vl.l g.time))::prW a68 c68 (C5 st (d,H3 g.k g.name g.cond g.ch g.tg.l g.vl.l g.time))::.pt b4 (.cells (guE g).toArray 102 (0,0))::h) ?_ Su Sb ⟨a68,c68,by trivial,rfl,rfl⟩);exact Su;replace c54:=G2 c54
 refine kQ2 [0,2,4,7,22,69] ?_;refine wc (fun c69=>?_) fun c69=>?_
 replace c69:=G3 c69;have e9:=H3.eq_1 g.k g.name g.cond g.ch g.tg.l g.vl.l g.time;rw[if_neg c23,if_neg c32,if_neg c41,if_neg c54,if_pos c69] at e9;refine kA4 ?_;refine xg (E3 Et Ek Ef) (a3c 163 E5 [44] _ _ _ g.vl.l _ (hO.vl.rd.mono Vl Sb) (by omega) (fun x _=>Nat.le_trans (L1 x) (by decide)) (fun x hx h2 hh=>J2 hg x h2 ((hO.vl.ok x hx).mono (List.Sublist.trans Sb hh)))) ?_;rintro _ _ ⟨a75,c75,_,rfl,rfl,rfl⟩;refine xY K7 Eb fun b76=>?_
 refine kR a75 fun p75 q75 r75=>?_
 refine WL.perm ((Del.perm (r:=prB b a c st) De).trans ((Del.perm (r:=prW a c st) De).cons _)) ?_;refine xg (E3 Et Et Et) (G5 hg hp b a c st d _ 1 _ [⟨a75,c75,D2 [44] E5 g.vl.l⟩] (H3 g.k g.name g.cond g.ch g.tg.l g.vl.l g.time) _ (Rd.ofPt rfl (by decide) Me) (B4 (iR r75 p75 q75) H8) (by decide) (B4 (a0s [44] g.vl.l (by omega)) H8) (by rw[e9];simp) (hT) hn) ?_;rintro _ _ ⟨a77,c77,rfl⟩;refine WL.nil (D0 [] (h'':=prB b a77 c77 (C5 st (d,H3 g.k g.name g.cond g.ch g.tg.l g.vl.l g.time))::prW a77 c77 (C5 st (d,H3 g.k g.name g.cond g.ch g.tg.l g.vl.l g.time))::.pt b4 (.cells (guE g).toArray 102 (0,0))::h) ?_ Su Sb ⟨a77,c77,by trivial,rfl,rfl⟩);exact Su;replace c69:=G2 c69;refine kQ2 [0,2,4,7,22,78] ?_;refine wc (fun c78=>?_) fun c78=>?_
 replace c78:=G3 c78;have e9:=H3.eq_1 g.k g.name g.cond g.ch g.tg.l g.vl.l g.time;rw[if_neg c23,if_neg c32,if_neg c41,if_neg c54,if_neg c69,if_pos c78] at e9;refine kA2 ?_;refine xY O1 Eb fun b82=>?_
 refine xg (E1 Et) (C4 hg _ 1 _ [[69,76,83,69]] _ Rr (by decide) (by decide)) ?_;rintro _ _ ⟨a83,c83,_,rfl,rfl,rfl⟩;refine xY K7 Eb fun b84=>?_
 refine kR a83 fun p83 q83 r83=>?_
 refine WL.perm ((Del.perm (r:=prB b a c st) De).trans ((Del.perm (r:=prW a c st) De).cons _)) ?_;refine xg (E3 Et Et Et) (G5 hg hp b a c st d _ 1 _ [⟨a83,c83,[A1 [69,76,83,69]]⟩] (H3 g.k g.name g.cond g.ch g.tg.l g.vl.l g.time) _ (Rd.ofPt rfl (by decide) Me) (B4 (iR r83 p83 q83) H8) (by decide) (B4 (by simp) H8) (by rw[e9];simp) (hT) hn) ?_;rintro _ _ ⟨a85,c85,rfl⟩;refine WL.nil (D0 [] (h'':=prB b a85 c85 (C5 st (d,H3 g.k g.name g.cond g.ch g.tg.l g.vl.l g.time))::prW a85 c85 (C5 st (d,H3 g.k g.name g.cond g.ch g.tg.l g.vl.l g.time))::.pt b4 (.cells (guE g).toArray 102 (0,0))::h) ?_ Su Sb ⟨a85,c85,by trivial,rfl,rfl⟩);exact Su;replace c78:=G2 c78;refine kQ2 [0,2,4,7,86] ?_;refine wc (fun c86=>?_) fun c86=>?_
 replace c86:=G3 c86;have e9:=H3.eq_1 g.k g.name g.cond g.ch g.tg.l g.vl.l g.time;rw[if_neg c23,if_neg c32,if_neg c41,if_neg c54,if_neg c69,if_neg c78] at e9;refine kA4 ?_;refine xg (E1 Et) (a1V g.name _ _) ?_;rintro _ _ ⟨a92,c92,_,rfl,rfl,rfl⟩;refine kA1 ?_;refine kR a20 fun p20 q20 r20=>?_
 refine xg (E2 Ek Et) (b2E hg [59] (by decide) _ _ _ (D2 [59] E5 g.tg.l) _ (iR r20 p20 q20) (Nat.le_trans (a6H [59] g.tg.l (by omega)) (by decide))) ?_;rintro _ _ ⟨a94,c94,_,rfl,rfl,rfl⟩;refine xY K7 Eb fun b95=>?_
 refine kR a92 fun p92 q92 r92=>?_
 refine kR a94 fun p94 q94 r94=>?_
 refine WL.perm ((Del.perm (r:=prB b a c st) De).trans ((Del.perm (r:=prW a c st) De).cons _)) ?_;refine xg (E3 Et Et Et) (G5 hg hp b a c st d _ 2 _ [⟨a92,c92,[O9 g.name]⟩,⟨a94,c94,a2o [59] (D2 [59] E5 g.tg.l)⟩] (H3 g.k g.name g.cond g.ch g.tg.l g.vl.l g.time) _ (Rd.ofPt rfl (by decide) Me) (B4 (iR r92 p92 q92) (B4 (iR r94 p94 q94) H8)) (by decide) (B4 (by simp) (B4 (b65 [59] (a6H [59] g.tg.l (by omega))) H8)) (by rw[e9];simp) (hT) hn) ?_;rintro _ _ ⟨a96,c96,rfl⟩;refine WL.nil (D0 [] (h'':=prB b a96 c96 (C5 st (d,H3 g.k g.name g.cond g.ch g.tg.l g.vl.l g.time))::prW a96 c96 (C5 st (d,H3 g.k g.name g.cond g.ch g.tg.l g.vl.l g.time))::.pt b4 (.cells (guE g).toArray 102 (0,0))::h) ?_ Su Sb ⟨a96,c96,by trivial,rfl,rfl⟩);exact Su;replace c86:=G2 c86;omega;rintro _ _ ⟨a9,c9,hJ,rfl,rfl⟩;refine B2 rfl ?_;refine kA3 ?_
 refine xG (F2 a0y.und a0y.size a0y.posz (Ev.tmp rfl) Ek Rr rfl (q:=0) (by omega)) ?_;refine kA3 ?_;refine xg (E3 Et Et Et) (hy3 b a9 c9 (C5 st (d,H3 g.k g.name g.cond g.ch g.tg.l g.vl.l g.time)) (d+1) _ (hy1.mono Sb) hy2 (by omega) (U3 hn)) ?_;rintro _ _ ⟨a104,c104,rfl⟩;rw[<- a0N,<- hlg];refine WL.nil (w0 (prB b a104 c104 (B6 st (Z6 g d))::prW a104 c104 (B6 st (Z6 g d))::h) ?_);exact⟨a104,c104,rfl⟩
end
section
open Go.Eng Go.Pc Go.Sx Go
open Go.Xp hiding B C2
open Go.Ty (Ty Vr Tok eqT tyV I9 B3 B5 T9 zeroK N3 D5 encV D9 prL prV PrOk VOk mayPr hdV)
open Go.Lx (encB C9 textO)
open Go.Ly (Rw I6 C6)
theorem a7Z {t:Ty}:TkL (L5 t):=by
 unfold L5 Go.Ty.tokens;split
 ·rename_i hm
  have hw:=b5O hm;have hd:=Go.Ty.may_dim hm;have h1:TkL (Go.Ty.dimT t):=by
   unfold Go.Ty.dimT;refine O0 (a7i (a3E (p:=0) (by decide)) (a7i (fun x hx=>?_) (a3E (p:=0) (by decide)))) a1o;rw[List.mem_singleton] at hx;subst hx;exact⟨(show -2147483648<=t.dim/\t.dim<=2147483647 by omega),Nat.zero_le _⟩
  have h2:TkL (Go.Ty.chanT t):=O0 (a7i (a3E (p:=0) (by decide)) (a3E (p:=0) (by decide))) a1o;have h3:TkL [Go.Ty.lastT t]:=by
   unfold Go.Ty.lastT;split
   ·refine a3E (p:=0) ?_
    have:∀ k,(Go.Ty.wordS k).1.length<=10:=fun k=>by
     unfold Go.Ty.wordS Go.Ty.prims Go.Ty.wordIn Go.Ty.wordIn Go.Ty.wordIn Go.Ty.wordIn;repeat' split
     all_goals decide
    exact Nat.le_trans (this _) (by decide)
   ·split
    ·exact a3E (p:=0) hw.p
    ·exact a3E (p:=0) (by decide)
  exact G6 (G6 h1 h2) h3
 ·exact a1o
theorem c5Q {f:Fo} (h:FoW f):TkL (R5 f):=G6 (G6 (O0 (W6 (by decide)) a1o) a7Z) (b01 h.n)
theorem a6Z {l:List B} (h:∀ x ∈ l,x.length<=Big):TkL (J1 l):=b2D (by decide) fun x hx=>b01 (h x hx)
theorem c1q {l:List Int}:TkL (D2 [59] a0Z l):=b2D (by decide) fun _ _=>a7Z
theorem a2X (l:List B) (h:l.length<=9):(J1 l).length<=30000:=by
 have h1:=a2V [44] (fun s=>[O9 s]) 1 l fun x _=>Nat.le_refl _
 unfold J1;omega
theorem b1z (k:Int):(a0Z k).length<=10:=a2U _
theorem a9D (sep:B) (l:List Int) (h:l.length<=9):(D2 sep a0Z l).length<=25000:=by
 have h1:=a2V sep a0Z 10 l fun x _=>b1z x
 omega
theorem b09 (f:Fo):(R5 f).length<=20:=by
 unfold R5;have:=a2U f.ty;rw[List.length_append,List.length_append];split <;> simp only[List.length_singleton,List.length_nil] <;> omega
theorem c1G (sep:B) (l:List Fo) (h:l.length<=9):(D2 sep R5 l).length<=30000:=by
 have h1:=a2V sep R5 20 l fun x _=>b09 x
 omega
theorem c0o {s:Sp} (h:spP s=true):(1<=s.k/\s.k<=5)/\s.names.l.length<=8/\(s.k=5->s.bl.length=1/\s.fs.l.length<=8)/\(s.k=4->mayPr s.cs s.vs.l=true):=by
 unfold spP at h;split at h
 ·rename_i hk
  simp only[Bool.and_eq_true] at h;obtain⟨⟨h1,h2⟩,-⟩:=h;have h3:=(V9 h2).2.2;refine⟨hk,by split at h3 <;> omega,fun h5=>?_,fun h4=>?_⟩
  ·unfold a2M at h1
   rw[if_neg (by omega),if_neg (by omega),if_neg (by omega),if_neg (by omega)] at h1;simp only[Bool.and_eq_true,beq_iff_eq] at h1;have:=(V9 h1.2).2.2;exact⟨by omega,by omega⟩
  ·unfold a2M at h1
   rw[if_neg (by omega),if_neg (by omega),if_neg (by omega),if_pos h4] at h1;exact h1
 ·cases h
theorem b7C {cs:Bool} {l:List Vr} (h:mayPr cs l=true):1<=l.length/\l.length<=16:=by
 unfold Go.Ty.mayPr at h;cases cs with
 | false=>
  simp only[Bool.not_false,if_true,Bool.and_eq_true,beq_iff_eq] at h;omega
 | true=>
  simp only[Bool.not_true,Bool.false_eq_true,if_false] at h;split at h
  ·cases h
  ·rename_i q
   simp only[Bool.or_eq_true,decide_eq_true_eq] at q;omega
theorem b0r:∀ {l pre:List Vr},Go.Ty.mayIn pre l=true->∀ v ∈ l,v.tag.length<=Big
 | [],_,_,v,hv=>by cases hv
 | w::r,pre,h,v,hv=>by
  unfold Go.Ty.mayIn at h;split at h
  ·cases h
  ·rename_i q
   cases hv with
   | head=>
    unfold Go.Ty.badV at q;simp only[Bool.or_eq_true,Bool.not_eq_true',not_or,Bool.not_eq_false] at q;have q1:=q.1.1;unfold Go.Lx.name at q1;simp only[Bool.and_eq_true,decide_eq_true_eq] at q1;have q2:=q1.1.1.1.2;unfold Big;omega
   | tail _ hv=>exact b0r h v hv
theorem b7O {cs:Bool} {l:List Vr} (h:mayPr cs l=true):∀ v ∈ l,v.tag.length<=Big:=by
 unfold Go.Ty.mayPr at h;cases cs with
 | false=>
  simp only[Bool.not_false,if_true,Bool.and_eq_true,beq_iff_eq] at h;intro v hv;match l,h.1.1,h.1.2,hv with
  | [w],_,h2,hv=>
   have:v=w:=by simpa using hv
   subst this;have h3:v.tag=[]:=h2;rw[h3];exact Nat.zero_le _
 | true=>
  simp only[Bool.not_true,Bool.false_eq_true,if_false] at h;split at h
  ·cases h
  ·exact b0r h
theorem b7I (s:Sp) (d:Int):K6 s d=if s.k=1 then [(d,(L5 s.ty++J1 s.names.l)++[A1 [58]])]
 else if s.k=2 then [(d,(((([A1 [86,65,76]]++L5 s.ty)++J1 s.names.l)++[A1 [73,83]])++E5 s.e)++[A1 [58]])]
 else if s.k=3 then [(d,(((L5 s.ty++J1 s.names.l)++[A1 [73,83]])++E5 s.e)++[A1 [58]])]
 else if s.k=5 then (d,((([A1 [80,82,79,67]]++J1 s.names.l)++[A1 [40]])++D2 [44] R5 s.fs.l)++[A1 [41]])::(a1W s.bl (d+1)++[(d,[A1 [58]])])
 else if s.cs=false then [(d,((([A1 [80,82,79,84,79,67,79,76]]++J1 s.names.l)++[A1 [73,83]])++D2 [59] a0Z (hdV s.vs.l).items)++[A1 [58]])]
 else (d,[A1 [80,82,79,84,79,67,79,76]]++J1 s.names.l)::(d+1,[A1 [67,65,83,69]])::(s.vs.l.map (fun v=>((d+2,J5 v):Ln))++[(d,[A1 [58]])]):=by cases s;rfl
theorem c4P {l:List Vr} (h:1<=l.length):l[0]?=some (hdV l):=by cases l with | nil=>simp at h | cons v l=>rfl
theorem b5k (st:Ps) (l:List Ln) (x:Ln):C5 (B6 st l) x=B6 st (l++[x]):=by rw[a07];rfl
set_option maxHeartbeats 4000000 in
theorem b9R {m:View} (hg:Glob m) (hp:Pow m) (s:Sp) (b:Nat) (a:Option Addr) (c:Nat) (st:Ps) (d:Int) (h:List Res) (hO:SOk m h s) (hu:spP s=true) (hS:∀ x ∈ s.bl,POk m h x/\Vld x/\PRC m x/\d+1+2 * (P9 x:Int)<=100000) (hd:0<=d/\d<=100000) (hn:st.1.length<=2049) :
 CT Tryz.prog 104 [ptV b,spV s,.int .i64 d] (prB b a c st::prW a c st::h) m (fun _ _ h'=>PrR b h (B6 st (K6 s d)) h'):=by
 obtain⟨hk,hnl,h5,h4⟩:=c0o hu;have hty:s.ty.proto.length<=9223372036854775807:=Nat.le_trans hO.ty.p (by decide);have hls:=b7I s d;have hfw:=hO.fw;refine CT.body Tryz.call104 Tryz.func104 rfl Tryz.ntmps104 Lb rfl ?_;refine j0 ?_;refine xX fun b4=>?_
 refine kQ0 [0,2,4] ?_;refine kA2 ?_;refine xg (E3 Et Ek Ef) (b89 161 (fun s=>[O9 s]) [44] _ _ _ s.names.l _ (hO.nr.mono Vl Sb) (by omega) (fun _ _=>(by decide:1<=3000)) (fun x _ h2 _=>a1V x h2 m)) ?_;rintro _ _ ⟨a11,c11,_,rfl,rfl,rfl⟩;refine kQ1 [0,2,4,6] ?_;refine kQ2 [0,2,4,6,13] ?_;refine kQ2 [0,2,4,6,13,14] ?_;refine wc (fun c14=>?_) fun c14=>?_
 replace c14:=G3 c14;obtain⟨T1,hT1⟩:∃ T,T=(L5 s.ty++J1 s.names.l)++[A1 [58]]:=⟨_,rfl⟩;rw[if_pos c14,<- hT1] at hls;refine kA4 ?_;refine xg (E1 Et) (a1A hg s.ty _ hty) ?_;rintro _ _ ⟨a20,c20,_,rfl,rfl,rfl⟩;refine kA1 ?_;refine xY O1 Eb fun b22=>?_
 refine xg (E1 Et) (C4 hg _ 1 _ [[58]] _ Rr (by decide) (by decide)) ?_;rintro _ _ ⟨a23,c23,_,rfl,rfl,rfl⟩;refine xY K7 Eb fun b24=>?_
 refine kR a20 fun p20 q20 r20=>?_
 refine kR a11 fun p11 q11 r11=>?_
 refine kR a23 fun p23 q23 r23=>?_
 refine WL.perm ((Del.perm (r:=prB b a c st) De).trans ((Del.perm (r:=prW a c st) De).cons _)) ?_;refine xg (E3 Et Et Et) (G5 hg hp b a c st d _ 3 _ [⟨a20,c20,L5 s.ty⟩,⟨a11,c11,J1 s.names.l⟩,⟨a23,c23,[A1 [58]]⟩] (T1) _ (Rd.ofPt rfl (by decide) Me) (B4 (iR r20 p20 q20) (B4 (iR r11 p11 q11) (B4 (iR r23 p23 q23) H8))) (by decide) (B4 (Nat.le_trans (a2U _) (by decide)) (B4 (a2X s.names.l (by omega)) (B4 (by simp) H8))) (by rw[hT1];simp) (by rw[hT1];exact G6 (G6 a7Z (a6Z hO.nw)) (W6 (by decide))) hn) ?_;rintro _ _ ⟨a25,c25,rfl⟩;rw[show C5 st (d,T1)=B6 st (K6 s d) by rw[hls];rfl];refine WL.nil (w0 (prB b a25 c25 (B6 st (K6 s d))::prW a25 c25 (B6 st (K6 s d))::h) ?_);exact⟨a25,c25,rfl⟩;replace c14:=G2 c14;refine kQ2 [0,2,4,6,13,26] ?_;refine wc (fun c26=>?_) fun c26=>?_
 replace c26:=G3 c26;obtain⟨T2,hT2⟩:∃ T,T=(((([A1 [86,65,76]]++L5 s.ty)++J1 s.names.l)++[A1 [73,83]])++E5 s.e)++[A1 [58]]:=⟨_,rfl⟩;rw[if_neg c14,if_pos c26,<- hT2] at hls;refine jE ?_;refine a0j [2,3,6,8,9,12,13,4096] (.op 0 (.op 1 (.op 4 (.op 5 (.op 7 (.op 10 (.op 11 (.op 2 (.op 3 (.op 6 (.op 8 (.op 9 (.op 12 (.op 13 .nil)))))))))))))) [14,15,16] _ [] D7 (fun _ _ _ h=>a1m h) [0,1,7] (by kernel_rfl) ?_;refine kA7 ?_;refine sB rfl O1 fun b30=>?_
 refine H0 rfl rfl Ef (E1 (Ev.tmp rfl)) (fun fr=>C4 hg _ 1 _ [[86,65,76]] _ (Rd.fr Rr fr) (by decide) (by decide)) Lb fun a31 c31=>?_
 refine H0 rfl rfl Ef (E1 Et) (fun fr=>a1A hg s.ty _ hty) Lb fun a34 c34=>?_
 refine sB rfl O1 fun b36=>?_
 refine H0 rfl rfl Ef (E1 (Ev.tmp rfl)) (fun fr=>C4 hg _ 1 _ [[73,83]] _ (Rd.fr Rr fr) (by decide) (by decide)) Lb fun a37 c37=>?_
 refine H0 rfl rfl Ef (E1 Et) (fun fr=>J2 hg s.e _ (hO.e.mono Sb)) Lb fun a40 c40=>?_
 refine sB rfl O1 fun b41=>?_
 refine SR.nil rfl rfl ?_;refine xg (E1 Et) (C4 hg _ 1 _ [[58]] _ Rr (by decide) (by decide)) ?_;rintro _ _ ⟨a42,c42,_,rfl,rfl,rfl⟩;refine xY K7 Eb fun b43=>?_
 refine kR a31 fun p31 q31 r31=>?_
 refine kR a34 fun p34 q34 r34=>?_
 refine kR a11 fun p11 q11 r11=>?_
 refine kR a37 fun p37 q37 r37=>?_
 refine kR a40 fun p40 q40 r40=>?_
 refine kR a42 fun p42 q42 r42=>?_
 refine WL.perm ((Del.perm (r:=prB b a c st) De).trans ((Del.perm (r:=prW a c st) De).cons _)) ?_;refine xg (E3 Et Et Et) (G5 hg hp b a c st d _ 6 _ [⟨a31,c31,[A1 [86,65,76]]⟩,⟨a34,c34,L5 s.ty⟩,⟨a11,c11,J1 s.names.l⟩,⟨a37,c37,[A1 [73,83]]⟩,⟨a40,c40,E5 s.e⟩,⟨a42,c42,[A1 [58]]⟩] (T2) _ (Rd.ofPt rfl (by decide) Me) (B4 (iR r31 p31 q31) (B4 (iR r34 p34 q34) (B4 (iR r11 p11 q11) (B4 (iR r37 p37 q37) (B4 (iR r40 p40 q40) (B4 (iR r42 p42 q42) H8)))))) (by decide) (B4 (by simp) (B4 (Nat.le_trans (a2U _) (by decide)) (B4 (a2X s.names.l (by omega)) (B4 (by simp) (B4 (Nat.le_trans (L1 _) (by decide)) (B4 (by simp) H8)))))) (by rw[hT2];simp) (by rw[hT2];exact G6 (G6 (G6 (G6 (G6 (W6 (by decide)) a7Z) (a6Z hO.nw)) (W6 (by decide))) (a2C hO.e)) (W6 (by decide))) hn) ?_;rintro _ _ ⟨a44,c44,rfl⟩;rw[show C5 st (d,T2)=B6 st (K6 s d) by rw[hls];rfl]
 refine WL.nil (w0 (prB b a44 c44 (B6 st (K6 s d))::prW a44 c44 (B6 st (K6 s d))::h) ?_);exact⟨a44,c44,rfl⟩;replace c26:=G2 c26;refine kQ2 [0,2,4,6,13,45] ?_;refine wc (fun c45=>?_) fun c45=>?_
 replace c45:=G3 c45;obtain⟨T3,hT3⟩:∃ T,T=(((L5 s.ty++J1 s.names.l)++[A1 [73,83]])++E5 s.e)++[A1 [58]]:=⟨_,rfl⟩;rw[if_neg c14,if_neg c26,if_pos c45,<- hT3] at hls;refine jE ?_;refine a0j [4,6,7,10,11,4096] (.op 0 (.op 1 (.op 2 (.op 3 (.op 5 (.op 8 (.op 9 (.op 4 (.op 6 (.op 7 (.op 10 (.op 11 .nil)))))))))))) [12,13,14] _ [] D7 (fun _ _ _ h=>a1m h) [0,1,5] (by kernel_rfl) ?_;refine kA7 ?_;refine H0 rfl rfl Ef (E1 Et) (fun fr=>a1A hg s.ty _ hty) Lb fun a51 c51=>?_
 refine sB rfl O1 fun b53=>?_
 refine H0 rfl rfl Ef (E1 (Ev.tmp rfl)) (fun fr=>C4 hg _ 1 _ [[73,83]] _ (Rd.fr Rr fr) (by decide) (by decide)) Lb fun a54 c54=>?_
 refine H0 rfl rfl Ef (E1 Et) (fun fr=>J2 hg s.e _ (hO.e.mono Sb)) Lb fun a57 c57=>?_
 refine sB rfl O1 fun b58=>?_
 refine SR.nil rfl rfl ?_;refine xg (E1 Et) (C4 hg _ 1 _ [[58]] _ Rr (by decide) (by decide)) ?_;rintro _ _ ⟨a59,c59,_,rfl,rfl,rfl⟩;refine xY K7 Eb fun b60=>?_
 refine kR a51 fun p51 q51 r51=>?_
 refine kR a11 fun p11 q11 r11=>?_
 refine kR a54 fun p54 q54 r54=>?_
 refine kR a57 fun p57 q57 r57=>?_
 refine kR a59 fun p59 q59 r59=>?_
 refine WL.perm ((Del.perm (r:=prB b a c st) De).trans ((Del.perm (r:=prW a c st) De).cons _)) ?_;refine xg (E3 Et Et Et) (G5 hg hp b a c st d _ 5 _ [⟨a51,c51,L5 s.ty⟩,⟨a11,c11,J1 s.names.l⟩,⟨a54,c54,[A1 [73,83]]⟩,⟨a57,c57,E5 s.e⟩,⟨a59,c59,[A1 [58]]⟩] (T3) _ (Rd.ofPt rfl (by decide) Me) (B4 (iR r51 p51 q51) (B4 (iR r11 p11 q11) (B4 (iR r54 p54 q54) (B4 (iR r57 p57 q57) (B4 (iR r59 p59 q59) H8))))) (by decide) (B4 (Nat.le_trans (a2U _) (by decide)) (B4 (a2X s.names.l (by omega)) (B4 (by simp) (B4 (Nat.le_trans (L1 _) (by decide)) (B4 (by simp) H8))))) (by rw[hT3];simp) (by rw[hT3];exact G6 (G6 (G6 (G6 a7Z (a6Z hO.nw)) (W6 (by decide))) (a2C hO.e)) (W6 (by decide))) hn) ?_;rintro _ _ ⟨a61,c61,rfl⟩;rw[show C5 st (d,T3)=B6 st (K6 s d) by rw[hls];rfl];refine WL.nil (w0 (prB b a61 c61 (B6 st (K6 s d))::prW a61 c61 (B6 st (K6 s d))::h) ?_);exact⟨a61,c61,rfl⟩;replace c45:=G2 c45
 refine kQ2 [0,2,4,6,13,62] ?_;refine wc (fun c62=>?_) fun c62=>?_
 replace c62:=G3 c62;obtain⟨T5,hT5⟩:∃ T,T=((([A1 [80,82,79,67]]++J1 s.names.l)++[A1 [40]])++D2 [44] R5 s.fs.l)++[A1 [41]]:=⟨_,rfl⟩;rw[if_neg c14,if_neg c26,if_neg c45,if_pos c62,<- hT5] at hls;obtain⟨hbl,hfl⟩:=h5 c62;obtain⟨y,hy⟩:=A3 (l:=s.bl) (k:=0) (by omega);obtain⟨hy1,hy2,hy3,hy4⟩:=hS y (List.mem_of_getElem? hy);have hrb:=hO.b;have hcy:=a6c y;have hbe:s.bl=[y]:=by
  cases hb:s.bl with
  | nil=>rw[hb] at hy;cases hy
  | cons z r=>
   rw[hb] at hy hbl;cases hy;cases r with
   | nil=>rfl
   | cons u v=>simp at hbl
 refine jE ?_;refine a0j [2,3,5,6,9,10,4096] (.op 0 (.op 1 (.op 4 (.op 7 (.op 8 (.op 2 (.op 3 (.op 5 (.op 6 (.op 9 (.op 10 .nil))))))))))) [11,12,13] _ [] D7 (fun _ _ _ h=>a1m h) [0,1,4] (by kernel_rfl) ?_;refine kA5 ?_;refine sB rfl O1 fun b66=>?_
 refine H0 rfl rfl Ef (E1 (Ev.tmp rfl)) (fun fr=>C4 hg _ 1 _ [[80,82,79,67]] _ (Rd.fr Rr fr) (by decide) (by decide)) Lb fun a67 c67=>?_
 refine sB rfl O1 fun b69=>?_
 refine H0 rfl rfl Ef (E1 (Ev.tmp rfl)) (fun fr=>C4 hg _ 1 _ [[40]] _ (Rd.fr Rr fr) (by decide) (by decide)) Lb fun a70 c70=>?_
 refine H0 rfl rfl Ef (E3 Et Ek Ef) (fun fr=>b71 165 R5 [44] _ _ _ s.fs.l _ (hO.fr.mono Vl Sb) (by omega) (fun x _=>Nat.le_trans (b09 x) (by decide)) (fun x hx h2 _=>b5F hg x h2 (hO.fw x hx))) Lb fun a73 c73=>?_
 refine sB rfl O1 fun b74=>?_
 refine SR.nil rfl rfl ?_;refine xg (E1 Et) (C4 hg _ 1 _ [[41]] _ Rr (by decide) (by decide)) ?_;rintro _ _ ⟨a75,c75,_,rfl,rfl,rfl⟩;refine xY K7 Eb fun b76=>?_
 refine kR a67 fun p67 q67 r67=>?_
 refine kR a11 fun p11 q11 r11=>?_
 refine kR a70 fun p70 q70 r70=>?_
 refine kR a73 fun p73 q73 r73=>?_
 refine kR a75 fun p75 q75 r75=>?_
 refine WL.perm ((Del.perm (r:=prB b a c st) De).trans ((Del.perm (r:=prW a c st) De).cons _)) ?_;refine xg (E3 Et Et Et) (G5 hg hp b a c st d _ 5 _ [⟨a67,c67,[A1 [80,82,79,67]]⟩,⟨a11,c11,J1 s.names.l⟩,⟨a70,c70,[A1 [40]]⟩,⟨a73,c73,D2 [44] R5 s.fs.l⟩,⟨a75,c75,[A1 [41]]⟩] (T5) _ (Rd.ofPt rfl (by decide) Me) (B4 (iR r67 p67 q67) (B4 (iR r11 p11 q11) (B4 (iR r70 p70 q70) (B4 (iR r73 p73 q73) (B4 (iR r75 p75 q75) H8))))) (by decide) (B4 (by simp) (B4 (a2X s.names.l (by omega)) (B4 (by simp) (B4 (c1G [44] s.fs.l (by omega)) (B4 (by simp) H8))))) (by rw[hT5];simp) (by rw[hT5];exact G6 (G6 (G6 (G6 (W6 (by decide)) (a6Z hO.nw)) (W6 (by decide))) (b2D (by decide) fun x hx=>c5Q (hO.fw x hx))) (W6 (by decide))) hn) ?_;rintro _ _ ⟨a77,c77,rfl⟩;refine kQ0 [0,2,4] ?_;refine kA3 ?_;refine xG (F2 a0y.und a0y.size a0y.posz (Ev.tmp rfl) Ek Rr rfl (q:=0) (by omega)) ?_;refine kA3 ?_
 refine WL.perm ((Del.perm (r:=prB b a77 c77 (C5 st (d,T5))) De).trans ((Del.perm (r:=prW a77 c77 (C5 st (d,T5))) De).cons _)) ?_;refine xg (E3 Et Et Et) (hy3 b a77 c77 (C5 st (d,T5)) (d+1) _ (hy1.mono Sb) hy2 (by omega) (U3 hn)) ?_;rintro _ _ ⟨a85,c85,rfl⟩;refine kQ0 [0,2] ?_;refine kA2 ?_;refine xY O1 Eb fun b88=>?_
 refine xg (E1 Et) (C4 hg _ 1 _ [[58]] _ Rr (by decide) (by decide)) ?_;rintro _ _ ⟨a89,c89,_,rfl,rfl,rfl⟩;refine xY K7 Eb fun b90=>?_
 refine kR a89 fun p89 q89 r89=>?_
 refine WL.perm ((Del.perm (r:=prB b a85 c85 (B6 (C5 st (d,T5)) (G8 y (d+1)))) De).trans ((Del.perm (r:=prW a85 c85 (B6 (C5 st (d,T5)) (G8 y (d+1)))) De).cons _)) ?_;refine xg (E3 Et Et Et) (G5 hg hp b a85 c85 (B6 (C5 st (d,T5)) (G8 y (d+1))) d _ 1 _ [⟨a89,c89,[A1 [58]]⟩] ([A1 [58]]) _ (Rd.ofPt rfl (by decide) Me) (B4 (iR r89 p89 q89) H8) (by decide) (B4 (by simp) H8) (by simp) ((W6 (by decide))) (a08 _ (U3 hn))) ?_;rintro _ _ ⟨a91,c91,rfl⟩;rw[show C5 (B6 (C5 st (d,T5)) (G8 y (d+1))) (d,[A1 [58]])=B6 st (K6 s d) by rw[hls,a0N,a07,hbe];rfl];refine WL.nil (w0 (prB b a91 c91 (B6 st (K6 s d))::prW a91 c91 (B6 st (K6 s d))::h) ?_);exact⟨a91,c91,rfl⟩;replace c62:=G2 c62;refine kQ2 [0,2,4,6,92] ?_;refine wc (fun c92=>?_) fun c92=>?_
 replace c92:=G3 c92;have hm:=h4 c92;obtain⟨hv1,hv2⟩:=b7C hm;have hv3:=Go.Ty.mayPr_items hm;have hvg:=b7O hm;have hg0:=c4P hv1;have hgm:=List.mem_of_getElem? hg0;have hvr:=hO.v.rd;have hvi:=(hO.v.ok _ hgm).rd;have hvn:=hO.vw _ hgm;have hv3h:=hv3 _ hgm;rw[if_neg c14,if_neg c26,if_neg c45,if_neg c62] at hls;refine kQ4 [0,2,4,6,97] ?_;refine wc (fun c97=>?_) fun c97=>?_
 have d97:s.cs=false:=by simpa using c97
 obtain⟨T4,hT4⟩:∃ T,T=((([A1 [80,82,79,84,79,67,79,76]]++J1 s.names.l)++[A1 [73,83]])++D2 [59] a0Z (hdV s.vs.l).items)++[A1 [58]]:=⟨_,rfl⟩;rw[if_pos d97,<- hT4] at hls;refine jE ?_;refine a0j [2,3,5,6,13,14,4096] (.op 0 (.op 1 (.op 4 (.op 7 (.op 8 (.op 9 (.op 10 (.op 11 (.op 12 (.op 2 (.op 3 (.op 5 (.op 6 (.op 13 (.op 14 .nil))))))))))))))) [15,16,17] _ [] D7 (fun _ _ _ h=>a1m h) [0,1,4] (by kernel_rfl) ?_;refine kA6 ?_;refine yG rfl (F2 a2G.und a2G.size a2G.posz (Ev.tmp rfl) Ek Rr rfl (q:=0) (by omega)) ?_;refine kA2 ?_;refine sB rfl O1 fun b100=>?_
 refine H0 rfl rfl Ef (E1 (Ev.tmp rfl)) (fun fr=>C4 hg _ 1 _ [[80,82,79,84,79,67,79,76]] _ (Rd.fr Rr fr) (by decide) (by decide)) Lb fun a101 c101=>?_
 refine sB rfl O1 fun b103=>?_
 refine H0 rfl rfl Ef (E1 (Ev.tmp rfl)) (fun fr=>C4 hg _ 1 _ [[73,83]] _ (Rd.fr Rr fr) (by decide) (by decide)) Lb fun a104 c104=>?_
 refine H0 rfl rfl Ef (E3 Et Ek Ef) (fun fr=>b0w 167 a0Z [59] _ _ _ (hdV s.vs.l).items _ (hvi.mono Vl Sb) (by omega) (fun x _=>Nat.le_trans (b1z x) (by decide)) (fun x _ h2 _=>b2C hg x h2)) Lb fun a111 c111=>?_
 refine sB rfl O1 fun b112=>?_
 refine SR.nil rfl rfl ?_;refine xg (E1 Et) (C4 hg _ 1 _ [[58]] _ Rr (by decide) (by decide)) ?_;rintro _ _ ⟨a113,c113,_,rfl,rfl,rfl⟩;refine xY K7 Eb fun b114=>?_
 refine kR a101 fun p101 q101 r101=>?_
 refine kR a11 fun p11 q11 r11=>?_
 refine kR a104 fun p104 q104 r104=>?_
 refine kR a111 fun p111 q111 r111=>?_
 refine kR a113 fun p113 q113 r113=>?_
 refine WL.perm ((Del.perm (r:=prB b a c st) De).trans ((Del.perm (r:=prW a c st) De).cons _)) ?_;refine xg (E3 Et Et Et) (G5 hg hp b a c st d _ 5 _ [⟨a101,c101,[A1 [80,82,79,84,79,67,79,76]]⟩,⟨a11,c11,J1 s.names.l⟩,⟨a104,c104,[A1 [73,83]]⟩,⟨a111,c111,D2 [59] a0Z (hdV s.vs.l).items⟩,⟨a113,c113,[A1 [58]]⟩] (T4) _ (Rd.ofPt rfl (by decide) Me) (B4 (iR r101 p101 q101) (B4 (iR r11 p11 q11) (B4 (iR r104 p104 q104) (B4 (iR r111 p111 q111) (B4 (iR r113 p113 q113) H8))))) (by decide) (B4 (by simp) (B4 (a2X s.names.l (by omega)) (B4 (by simp) (B4 (Nat.le_trans (a9D [59] (hdV s.vs.l).items (by omega)) (by decide)) (B4 (by simp) H8))))) (by rw[hT4];simp) (by rw[hT4];exact G6 (G6 (G6 (G6 (W6 (by decide)) (a6Z hO.nw)) (W6 (by decide))) c1q) (W6 (by decide))) hn) ?_;rintro _ _ ⟨a115,c115,rfl⟩;rw[show C5 st (d,T4)=B6 st (K6 s d) by rw[hls];rfl];refine kQ0 [] ?_
 refine WC.ret (b1T (h':=prB b a115 c115 (B6 st (K6 s d))::prW a115 c115 (B6 st (K6 s d))::h) (.inl rfl) rfl  Vl Sb ?_);exact⟨a115,c115,rfl⟩;have d97:¬ (s.cs=false):=by simpa using c97
 obtain⟨T6,hT6⟩:∃ T,T=[A1 [80,82,79,84,79,67,79,76]]++J1 s.names.l:=⟨_,rfl⟩;rw[if_neg d97,<- hT6] at hls;refine kQ0 [0,2,4,6] ?_;refine kA2 ?_;refine xY O1 Eb fun b118=>?_
 refine xg (E1 Et) (C4 hg _ 1 _ [[80,82,79,84,79,67,79,76]] _ Rr (by decide) (by decide)) ?_;rintro _ _ ⟨a119,c119,_,rfl,rfl,rfl⟩;refine kA1 ?_;refine xY K7 Eb fun b121=>?_
 refine kR a119 fun p119 q119 r119=>?_
 refine kR a11 fun p11 q11 r11=>?_
 refine WL.perm ((Del.perm (r:=prB b a c st) De).trans ((Del.perm (r:=prW a c st) De).cons _)) ?_;refine xg (E3 Et Et Et) (G5 hg hp b a c st d _ 2 _ [⟨a119,c119,[A1 [80,82,79,84,79,67,79,76]]⟩,⟨a11,c11,J1 s.names.l⟩] (T6) _ (Rd.ofPt rfl (by decide) Me) (B4 (iR r119 p119 q119) (B4 (iR r11 p11 q11) H8)) (by decide) (B4 (by simp) (B4 (a2X s.names.l (by omega)) H8)) (by rw[hT6];simp) (by rw[hT6];exact G6 (W6 (by decide)) (a6Z hO.nw)) hn) ?_;rintro _ _ ⟨a122,c122,rfl⟩;refine kQ0 [0,2,4] ?_;refine kA3 ?_;refine xY O1 Eb fun b126=>?_
 refine xg (E1 Et) (C4 hg _ 1 _ [[67,65,83,69]] _ Rr (by decide) (by decide)) ?_;rintro _ _ ⟨a127,c127,_,rfl,rfl,rfl⟩;refine xY K7 Eb fun b128=>?_
 refine kR a127 fun p127 q127 r127=>?_
 refine WL.perm ((Del.perm (r:=prB b a122 c122 (C5 st (d,T6))) De).trans ((Del.perm (r:=prW a122 c122 (C5 st (d,T6))) De).cons _)) ?_;refine xg (E3 Et Et Et) (G5 hg hp b a122 c122 (C5 st (d,T6)) (d+1) _ 1 _ [⟨a127,c127,[A1 [67,65,83,69]]⟩] ([A1 [67,65,83,69]]) _ (Rd.ofPt rfl (by decide) Me) (B4 (iR r127 p127 q127) H8) (by decide) (B4 (by simp) H8) (by simp) ((W6 (by decide))) (U3 hn)) ?_;rintro _ _ ⟨a129,c129,rfl⟩;refine kQ0 [0,2,4] ?_;refine kQ5 [0,2,132,133,134] ?_
 refine B0 [0,2,132,133] rfl (fun μ F' h'=>∃ a9:Option Addr,∃ c9:Nat,∃ j:Nat,(j<=s.vs.l.length)/\s.vs.l.length - j=μ/\F'=[(134,.int .i64 j)]/\prB b a9 c9 (B6 (C5 (C5 st (d,T6)) (d+1,[A1 [67,65,83,69]])) ((s.vs.l.take j).map fun v=>((d+2,J5 v):Ln)))::prW a9 c9 (B6 (C5 (C5 st (d,T6)) (d+1,[A1 [67,65,83,69]])) ((s.vs.l.take j).map fun v=>((d+2,J5 v):Ln)))::h=h') (s.vs.l.length - 0) [(134,.int .i64 0)] (h0:=prB b a129 c129 (B6 (C5 (C5 st (d,T6)) (d+1,[A1 [67,65,83,69]])) ((s.vs.l.take 0).map fun v=>((d+2,J5 v):Ln)))::prW a129 c129 (B6 (C5 (C5 st (d,T6)) (d+1,[A1 [67,65,83,69]])) ((s.vs.l.take 0).map fun v=>((d+2,J5 v):Ln)))::h) ?_ Sb ⟨a129,c129,0,Nat.zero_le _,rfl,rfl,rfl⟩ ?_;exact Su;rintro _ _ _ ⟨a9,c9,j,hj,rfl,rfl,rfl⟩;refine B2 rfl ?_;refine kQ1 [0,2,132,133,134,135] ?_;refine wc (fun c135=>?_) fun c135=>?_
 replace c135:=dT c135;obtain⟨v,hv⟩:=A3 (l:=s.vs.l) (k:=j) (by omega);have hvm:=List.mem_of_getElem? hv;have hvi:=(hO.v.ok _ hvm).rd;have hvn:=hO.vw _ hvm;have hv3v:=hv3 _ hvm;have hst:C5 (B6 (C5 (C5 st (d,T6)) (d+1,[A1 [67,65,83,69]])) ((s.vs.l.take j).map fun v=>((d+2,J5 v):Ln))) (d+2,J5 v)=(B6 (C5 (C5 st (d,T6)) (d+1,[A1 [67,65,83,69]])) ((s.vs.l.take (j+1)).map fun v=>((d+2,J5 v):Ln))):=by rw[a2y hv,List.map_append,List.map_singleton,<- b5k]
 have hvt:J5 v=[O9 v.tag]++a2o [59] (D2 [59] a0Z v.items):=rfl;refine kQ0 [0,2,132,133,134] ?_;refine kA2 ?_;refine xW fun b8=>?_
 refine kQ1 [0,2,8,132,133,134] ?_;refine a0j [5,8,9,10,4096] (.op 0 (.op 1 (.op 2 (.op 3 (.op 4 (.op 6 (.op 7 (.op 5 (.op 8 (.op 9 (.op 10 .nil))))))))))) [11] _ [] D7 (fun _ _ _ h=>a1m h) [] (by kernel_rfl) ?_;refine kA2 ?_;refine yG rfl (M5 Et Ek (by omega)) ?_;refine kA4 ?_;refine H0 rfl rfl Ef (E1 Et) (fun fr=>a1V v.tag _ _) Lb fun a143 c143=>?_
 refine H0 rfl rfl Ef (E3 Et Ek Ef) (fun fr=>b0w 167 a0Z [59] _ _ _ v.items _ (hvi.mono Vl Sb) (by omega) (fun x _=>Nat.le_trans (b1z x) (by decide)) (fun x _ h2 _=>b2C hg x h2)) Lb fun a146 c146=>?_
 refine H0 rfl rfl Ef (E2 Ek Et) (fun fr=>CT.knowRow Tryz.call168 (a:=a146) (List.mem_append_right _ Me) (fun p9 q9 r9=>b2E hg [59] (by decide) _ _ _ (D2 [59] a0Z v.items) _ (Rd.ofRow r9 p9 q9 (List.mem_append_right _ Me)) (Nat.le_trans (a9D [59] v.items (by omega)) (by decide)))) Lb fun a147 c147=>?_
 refine sB rfl K7 fun b148=>?_
 refine SR.nil rfl rfl ?_;refine kR a143 fun p143 q143 r143=>?_
 refine kR a147 fun p147 q147 r147=>?_
 refine WL.perm ((Del.perm (r:=prB b a9 c9 (B6 (C5 (C5 st (d,T6)) (d+1,[A1 [67,65,83,69]])) ((s.vs.l.take j).map fun v=>((d+2,J5 v):Ln)))) De).trans ((Del.perm (r:=prW a9 c9 (B6 (C5 (C5 st (d,T6)) (d+1,[A1 [67,65,83,69]])) ((s.vs.l.take j).map fun v=>((d+2,J5 v):Ln)))) De).cons _)) ?_;refine xg (E3 Et Et Et) (G5 hg hp b a9 c9 (B6 (C5 (C5 st (d,T6)) (d+1,[A1 [67,65,83,69]])) ((s.vs.l.take j).map fun v=>((d+2,J5 v):Ln))) (d+2) _ 2 _ [⟨a143,c143,[O9 v.tag]⟩,⟨a147,c147,a2o [59] (D2 [59] a0Z v.items)⟩] (J5 v) _ (Rd.ofPt rfl (by decide) Me) (B4 (iR r143 p143 q143) (B4 (iR r147 p147 q147) H8)) (by decide) (B4 (by simp) (B4 (b65 [59] (a9D [59] v.items (by omega))) H8)) (by rw[hvt];simp) (by rw[hvt];exact G6 (b01 (hvg v hvm)) (c4C (by decide) c1q)) (a08 _ (U3 (U3 hn)))) ?_;rintro _ _ ⟨a149,c149,rfl⟩;rw[hst];refine kQ0 [0,2,132,133,134] ?_;refine kA2 ?_
 refine WL.nil (A5 (s.vs.l.length - (j+1)) [(134,.int .i64 (j+1))] (h'':=prB b a149 c149 (B6 (C5 (C5 st (d,T6)) (d+1,[A1 [67,65,83,69]])) ((s.vs.l.take (j+1)).map fun v=>((d+2,J5 v):Ln)))::prW a149 c149 (B6 (C5 (C5 st (d,T6)) (d+1,[A1 [67,65,83,69]])) ((s.vs.l.take (j+1)).map fun v=>((d+2,J5 v):Ln)))::h) (by omega) ?_ Su Sb ⟨a149,c149,j+1,by omega,rfl,rfl,rfl⟩);exact Su;replace c135:=dF c135;rw[List.take_of_length_le (by omega)];refine kQ0 [0,2] ?_;refine kA2 ?_;refine xY O1 Eb fun b153=>?_
 refine xg (E1 Et) (C4 hg _ 1 _ [[58]] _ Rr (by decide) (by decide)) ?_;rintro _ _ ⟨a154,c154,_,rfl,rfl,rfl⟩;refine xY K7 Eb fun b155=>?_
 refine kR a154 fun p154 q154 r154=>?_
 refine WL.perm ((Del.perm (r:=prB b a9 c9 (B6 (C5 (C5 st (d,T6)) (d+1,[A1 [67,65,83,69]])) (s.vs.l.map fun v=>((d+2,J5 v):Ln)))) De).trans ((Del.perm (r:=prW a9 c9 (B6 (C5 (C5 st (d,T6)) (d+1,[A1 [67,65,83,69]])) (s.vs.l.map fun v=>((d+2,J5 v):Ln)))) De).cons _)) ?_;refine xg (E3 Et Et Et) (G5 hg hp b a9 c9 (B6 (C5 (C5 st (d,T6)) (d+1,[A1 [67,65,83,69]])) (s.vs.l.map fun v=>((d+2,J5 v):Ln))) d _ 1 _ [⟨a154,c154,[A1 [58]]⟩] ([A1 [58]]) _ (Rd.ofPt rfl (by decide) Me) (B4 (iR r154 p154 q154) H8) (by decide) (B4 (by simp) H8) (by simp) ((W6 (by decide))) (a08 _ (U3 (U3 hn)))) ?_;rintro _ _ ⟨a156,c156,rfl⟩;rw[show C5 (B6 (C5 (C5 st (d,T6)) (d+1,[A1 [67,65,83,69]])) (s.vs.l.map fun v=>((d+2,J5 v):Ln))) (d,[A1 [58]])=B6 st (K6 s d) by rw[hls,a0N,a0N,a07];rfl];refine WL.nil (w0 (prB b a156 c156 (B6 st (K6 s d))::prW a156 c156 (B6 st (K6 s d))::h) ?_);exact⟨a156,c156,rfl⟩;replace c92:=G2 c92
 omega
end
section
open Go.Eng Go.Pc Go.Sx Go
open Go.Xp hiding B C2
open Go.Ty (Ty Vr Tok eqT tyV I9 B3 B5 T9 zeroK N3 D5 encV D9 prL prV PrOk VOk mayPr hdV)
open Go.Lx (encB C9 textO)
open Go.Ly (Rw I6 C6)
theorem a5q (k:Int):(B8 k).1.t1<=9/\(B8 k).1.e1<=9/\((B8 k).2=true->1<=k/\k<=18):=by
 by_cases h:1<=k/\k<=18
 ·refine⟨?_,?_,fun _=>h⟩ <;>
  (obtain h | h | h | h | h | h | h | h | h | h | h | h | h | h | h | h | h | h:k=1\/k=2\/k=3\/k=4\/k=5\/k=6\/k=7\/k=8\/k=9\/k=10\/k=11\/k=12\/k=13\/k=14\/k=15\/k=16\/k=17\/k=18:=by omega) <;> (rw[h];decide)
 ·have e:B8 k=(us0,false):=by
   unfold B8;repeat rw[if_neg (by omega)]
  rw[e];exact⟨by decide,by decide,nofun⟩
theorem b9m {p:Pr} (h:Q9 p=true) (hk:p.k=11):p.pn.l.length=p.ll.length:=by
 unfold Q9 at h;split at h
 ·cases h
 ·have key:Y1 p (B8 p.k).1=true:=by
   split at h
   ·rw[hk] at h;cases h
   ·exact h
  rw[hk] at key;unfold Y1 at key;simp only[Bool.and_eq_true] at key;have:=(V9 key.1.2).2;have e:((B8 11).1).procs=true:=rfl;rw[e] at this;simp only[if_true] at this;omega
def c5d (k:Int) (n:Int) (x:Pr) (d:Int):List Ln:=if k=11 then (d+1,[A1 [80,82,79,67,69,83,83,79,82],⟨3,0,[],IntKind.i32.wrap n⟩])::G8 x (d+2) else G8 x (d+1)
theorem a7n {k:Int} {x:Pr} {d:Int}:∀ {ns:List Int} {l:List Pr} {j:Nat},l[j]?=some x->F3 k ns (l.take (j+1)) d=F3 k ns (l.take j) d++c5d k ((ns.drop j).headD 0) x d
 | ns,[],j,h=>by cases h
 | ns,y::l,0,h=>by
  cases h;show(if k=11 then _ else _)++F3 k ns.tail [] d=[]++c5d k (ns.headD 0) x d;rw[show F3 k ns.tail [] d=[] by cases ns.tail <;> rfl,List.append_nil,List.nil_append];rfl
 | ns,y::l,j+1,h=>by
  have ih:=a7n (k:=k) (d:=d) (ns:=ns.tail) (l:=l) (j:=j) (by simpa using h);show(if k=11 then _ else _)++F3 k ns.tail (l.take (j+1)) d=((if k=11 then _ else _)++F3 k ns.tail (l.take j) d)++_;rw[ih,List.append_assoc];cases ns <;> simp
theorem a5Q {d:Int} {g:Gu}:∀ {l:List Gu} {j:Nat},l[j]?=some g->J8 (l.take (j+1)) d=J8 (l.take j) d++Z6 g d
 | [],j,h=>by cases h
 | y::l,0,h=>by
  cases h;exact List.append_nil _
 | y::l,j+1,h=>by
  have ih:=a5Q (d:=d) (l:=l) (j:=j) (by simpa using h);show Z6 y d++J8 (l.take (j+1)) d=(Z6 y d++J8 (l.take j) d)++_;rw[ih,List.append_assoc]
theorem b8m (p:Pr) (d:Int):G8 p d=if p.k=18 then K6 p.sp d++a1W p.ll d else (d,A8 p.k p.name p.ch p.tg.l p.ex.l p.rep)::(F3 p.k p.pn.l p.ll d++J8 p.gl (d+1)):=by cases p;rfl
theorem c3j {l:List Int} {j:Nat} {y:Int} (h:l[j]?=some y):(l.drop j).headD 0=y:=by
 have h1:=(List.getElem?_eq_some_iff.1 h);rw[List.drop_eq_getElem_cons h1.1];exact h1.2
theorem c5H (v:Int):-2147483648<=IntKind.i32.wrap v/\IntKind.i32.wrap v<=2147483647:=by
 unfold IntKind.wrap;simp[IntKind.bits,IntKind.signed];omega
theorem c4S (y:Int):TkL [A1 [80,82,79,67,69,83,83,79,82],⟨3,0,[],IntKind.i32.wrap y⟩]:=a7i (W6 (by decide)) (fun x hx=>by
 rw[List.mem_singleton] at hx;subst hx;exact⟨c5H y,Nat.zero_le _⟩)
set_option maxHeartbeats 4000000 in
theorem c1I {m:View} (hg:Glob m) (hp:Pow m) (p:Pr):PRC m p:=by
 refine Pr.ind (q:=fun p=>PRC m p) (fun p ih b a c st d h hP hv hd hn=>?_) p;have hV:=hv.own;have hO:=hP.own;have hkk:=(a5q p.k).2.2 hV.kd;have hls:=b8m p d;have hrl:=hO.l;have hrn:=hO.pn;have hrg:=hO.g;have hlx:=Nat.le_trans hrl.le hrl.mx;have hgx:=Nat.le_trans hrg.le hrg.mx;have hpl:Q9 p=true:=by cases hv with | mk q _=>exact q
 refine CT.body Tryz.call54 Tryz.func54 rfl Tryz.ntmps54 Lb rfl ?_;refine j0 ?_;refine xX fun b4=>?_
 refine kQ0 [0,2,4] ?_;refine kQ3 [0,2,4,12] ?_;refine wc (fun c12=>?_) fun c12=>?_
 replace c12:=G3 c12;have hrp:p.rep.name=[]:=by
  by_cases e:p.rep.name=[]
  ·exact e
  ·have:=hV.rp e;rw[c12] at this;cases this
 have hpn:=hV.pn hrp;rw[c12] at hpn;have hl1:p.ll.length=1:=by
  have e1:(B8 18).1.p0=1:=rfl;have e2:(B8 18).1.p1=1:=rfl;rw[e1,e2] at hpn;omega
 obtain⟨y,hy⟩:=A3 (l:=p.ll) (k:=0) (by omega);have hin:In y p:=.l (List.mem_of_getElem? hy);have hle:p.ll=[y]:=by
  cases hb:p.ll with
  | nil=>rw[hb] at hy;cases hy
  | cons z r=>
   rw[hb] at hy hl1;cases hy;cases r with
   | nil=>rfl
   | cons u v=>simp at hl1
 have hlt:=hin.lt;rw[if_pos c12] at hls;refine kA4 ?_;refine WL.perm ((Del.perm (r:=prB b a c st) De).trans ((Del.perm (r:=prW a c st) De).cons _)) ?_;refine xg (E3 Et Et Et) (b9R hg hp p.sp b a c st d _ (hO.sp.mono Sb) (hV.sp (by rw[c12];rfl)) (fun x hx=>⟨(hP.sub (.s hx)).mono Sb,hv.sub (.s hx),ih x (.s hx),by have:=(In.s hx).lt;omega⟩) (by omega) hn) ?_;rintro _ _ ⟨a17,c17,rfl⟩;refine kQ0 [0,2,4] ?_;refine kA3 ?_;refine xG (F2 a0y.und a0y.size a0y.posz (Ev.tmp rfl) Ek Rr rfl (q:=0) (by omega)) ?_;refine kA2 ?_;refine WL.perm ((Del.perm (r:=prB b a17 c17 (B6 st (K6 p.sp d))) De).trans ((Del.perm (r:=prW a17 c17 (B6 st (K6 p.sp d))) De).cons _)) ?_;refine xg (E3 Et Et Et) (ih y hin b a17 c17 (B6 st (K6 p.sp d)) d _ ((hP.sub hin).mono Sb) (hv.sub hin) (by omega) (a08 _ hn)) ?_;rintro _ _ ⟨a24,c24,rfl⟩;rw[show B6 (B6 st (K6 p.sp d)) (G8 y d)=B6 st (G8 p d) by rw[hls,a07,hle];rfl]
 refine kQ0 [] ?_;refine WC.ret (b1T (h':=prB b a24 c24 (B6 st (G8 p d))::prW a24 c24 (B6 st (G8 p d))::h) (.inl rfl) rfl  Vl Sb ?_);exact⟨a24,c24,rfl⟩;replace c12:=G2 c12;rw[if_neg c12] at hls;have hTg:p.tg.l.length<=9:=by
  have h1:=hV.tn.2;have h2:=(a5q p.k).1;omega
 have hEx:p.ex.l.length<=9:=by
  have h1:=hV.en.2;have h2:=(a5q p.k).2.1;omega
 refine kQ0 [0,2,4] ?_;refine kA3 ?_;refine WL.perm ((Del.perm (r:=prB b a c st) De).trans ((Del.perm (r:=prW a c st) De).cons _)) ?_;refine xg (E3 Et Et Et) (b8T hg hp p b a c st d _ (hO.mono Sb) hTg hEx (by omega) (b7P hO) hn) ?_;rintro _ _ ⟨a28,c28,rfl⟩;refine kQ0 [0,2,4] ?_;refine kQ4 [0,2,4,30,31,32] ?_
 refine B0 [0,2,4,30,31] rfl (fun μ F' h'=>∃ a9:Option Addr,∃ c9:Nat,∃ j:Nat,(j<=p.ll.length)/\p.ll.length - j=μ/\F'=[(32,.int .i64 j)]/\prB b a9 c9 (B6 (C5 st (d,A8 p.k p.name p.ch p.tg.l p.ex.l p.rep)) (F3 p.k p.pn.l (p.ll.take j) d))::prW a9 c9 (B6 (C5 st (d,A8 p.k p.name p.ch p.tg.l p.ex.l p.rep)) (F3 p.k p.pn.l (p.ll.take j) d))::.pt b4 (.cells (prE p).toArray 46 (0,0))::h=h') (p.ll.length - 0) [(32,.int .i64 0)] (h0:=prB b a28 c28 (B6 (C5 st (d,A8 p.k p.name p.ch p.tg.l p.ex.l p.rep)) (F3 p.k p.pn.l (p.ll.take 0) d))::prW a28 c28 (B6 (C5 st (d,A8 p.k p.name p.ch p.tg.l p.ex.l p.rep)) (F3 p.k p.pn.l (p.ll.take 0) d))::.pt b4 (.cells (prE p).toArray 46 (0,0))::h) ?_ Sb ⟨a28,c28,0,Nat.zero_le _,rfl,rfl,rfl⟩ ?_;exact Su;rintro _ _ _ ⟨a9,c9,j,hj,rfl,rfl,rfl⟩;refine B2 rfl ?_;refine kQ1 [0,2,4,30,31,32,33] ?_;refine wc (fun c33=>?_) fun c33=>?_
 replace c33:=dT c33;obtain⟨x,hx⟩:=A3 (l:=p.ll) (k:=j) (by omega);have hin:In x p:=.l (List.mem_of_getElem? hx);have hlt:=hin.lt;have htk:=a7n (k:=p.k) (d:=d) (ns:=p.pn.l) hx;unfold c5d at htk;have hnj:(B6 (C5 st (d,A8 p.k p.name p.ch p.tg.l p.ex.l p.rep)) (F3 p.k p.pn.l (p.ll.take j) d)).1.length<=2049:=a08 _ (U3 hn);refine kQ0 [0,2,4,30,31,32] ?_;refine kA3 ?_;refine xW fun b7=>?_
 refine kQ2 [0,2,4,6,7,30,31,32] ?_;refine kQ3 [0,2,4,6,7,30,31,32,39] ?_;refine wc (fun c39=>?_) fun c39=>?_
 replace c39:=G3 c39;have hpk:=b9m hpl c39;obtain⟨y,hy⟩:=A3 (l:=p.pn.l) (k:=j) (by omega);rw[if_pos c39,c3j hy] at htk;refine jE ?_;refine a0j [3,4,12,13,4096] (.op 0 (.op 1 (.op 2 (.op 5 (.op 6 (.op 7 (.op 8 (.op 9 (.op 10 (.op 11 (.op 3 (.op 4 (.op 12 (.op 13 .nil)))))))))))))) [14] _ [] D7 (fun _ _ _ h=>a1m h) [] (by kernel_rfl) ?_;refine kA2 ?_;refine yG rfl (M5 Et Ek (by omega)) ?_;refine kA5 ?_;refine yG rfl (PO.conv uu3 a3m Et) ?_;refine yG rfl (PO.build H9 rfl rfl rfl Eb (by exact rfl)) ?_;refine sB rfl O1 fun b43=>?_
 refine H0 rfl rfl Ef (E1 (Ev.tmp rfl)) (fun fr=>C4 hg _ 1 _ [[80,82,79,67,69,83,83,79,82]] _ (Rd.fr Rr fr) (by decide) (by decide)) Lb fun a44 c44=>?_
 refine sB rfl A7 fun b52=>?_
 refine sB rfl K7 fun b53=>?_
 refine SR.nil rfl rfl ?_;refine kR a44 fun p44 q44 r44=>?_
 refine WL.perm ((Del.perm (r:=prB b a9 c9 (B6 (C5 st (d,A8 p.k p.name p.ch p.tg.l p.ex.l p.rep)) (F3 p.k p.pn.l (p.ll.take j) d))) De).trans ((Del.perm (r:=prW a9 c9 (B6 (C5 st (d,A8 p.k p.name p.ch p.tg.l p.ex.l p.rep)) (F3 p.k p.pn.l (p.ll.take j) d))) De).cons _)) ?_;refine xg (E3 Et Et Et) (G5 hg hp b a9 c9 (B6 (C5 st (d,A8 p.k p.name p.ch p.tg.l p.ex.l p.rep)) (F3 p.k p.pn.l (p.ll.take j) d)) (d+1) _ 2 _ [⟨a44,c44,[A1 [80,82,79,67,69,83,83,79,82]]⟩,⟨some ⟨b52,0,none⟩,1,[⟨3,0,[],IntKind.i32.wrap y⟩]⟩] [A1 [80,82,79,67,69,83,83,79,82],⟨3,0,[],IntKind.i32.wrap y⟩] _ (Rd.ofPt rfl (by decide) Me) (B4 (iR r44 p44 q44) (B4 (Rd.ofPt rfl (show 1<=9223372036854775807 by decide) Me) H8)) (by decide) (B4 (by simp) (B4 (by simp) H8)) rfl (c4S y) hnj) ?_;rintro _ _ ⟨a54,c54,rfl⟩;refine kQ0 [0,2,4,7,30,31,32] ?_;refine kA4 ?_
 refine WL.perm ((Del.perm (r:=prB b a54 c54 (C5 (B6 (C5 st (d,A8 p.k p.name p.ch p.tg.l p.ex.l p.rep)) (F3 p.k p.pn.l (p.ll.take j) d)) (d+1,[A1 [80,82,79,67,69,83,83,79,82],⟨3,0,[],IntKind.i32.wrap y⟩]))) De).trans ((Del.perm (r:=prW a54 c54 (C5 (B6 (C5 st (d,A8 p.k p.name p.ch p.tg.l p.ex.l p.rep)) (F3 p.k p.pn.l (p.ll.take j) d)) (d+1,[A1 [80,82,79,67,69,83,83,79,82],⟨3,0,[],IntKind.i32.wrap y⟩]))) De).cons _)) ?_;refine xg (E3 Et Et Et) (ih x hin b a54 c54 (C5 (B6 (C5 st (d,A8 p.k p.name p.ch p.tg.l p.ex.l p.rep)) (F3 p.k p.pn.l (p.ll.take j) d)) (d+1,[A1 [80,82,79,67,69,83,83,79,82],⟨3,0,[],IntKind.i32.wrap y⟩])) (d+2) _ ((hP.sub hin).mono Sb) (hv.sub hin) (by omega) (U3 hnj)) ?_;rintro _ _ ⟨a59,c59,rfl⟩
 rw[show B6 (C5 (B6 (C5 st (d,A8 p.k p.name p.ch p.tg.l p.ex.l p.rep)) (F3 p.k p.pn.l (p.ll.take j) d)) (d+1,[A1 [80,82,79,67,69,83,83,79,82],⟨3,0,[],IntKind.i32.wrap y⟩])) (G8 x (d+2))=(B6 (C5 st (d,A8 p.k p.name p.ch p.tg.l p.ex.l p.rep)) (F3 p.k p.pn.l (p.ll.take (j+1)) d)) by rw[htk,a07,a0N]];refine kQ0 [0,2,4,30,31,32] ?_;refine kQ0 [0,2,4,30,31,32] ?_;refine kA2 ?_;refine WL.nil (A5 (p.ll.length - (j+1)) [(32,.int .i64 (j+1))] (h'':=prB b a59 c59 (B6 (C5 st (d,A8 p.k p.name p.ch p.tg.l p.ex.l p.rep)) (F3 p.k p.pn.l (p.ll.take (j+1)) d))::prW a59 c59 (B6 (C5 st (d,A8 p.k p.name p.ch p.tg.l p.ex.l p.rep)) (F3 p.k p.pn.l (p.ll.take (j+1)) d))::.pt b4 (.cells (prE p).toArray 46 (0,0))::h) (by omega) ?_ Su Sb ⟨a59,c59,j+1,by omega,rfl,rfl,rfl⟩);exact Su;replace c39:=G2 c39;rw[if_neg c39] at htk;refine kQ0 [0,2,4,7,30,31,32] ?_;refine kA4 ?_
 refine WL.perm ((Del.perm (r:=prB b a9 c9 (B6 (C5 st (d,A8 p.k p.name p.ch p.tg.l p.ex.l p.rep)) (F3 p.k p.pn.l (p.ll.take j) d))) De).trans ((Del.perm (r:=prW a9 c9 (B6 (C5 st (d,A8 p.k p.name p.ch p.tg.l p.ex.l p.rep)) (F3 p.k p.pn.l (p.ll.take j) d))) De).cons _)) ?_;refine xg (E3 Et Et Et) (ih x hin b a9 c9 (B6 (C5 st (d,A8 p.k p.name p.ch p.tg.l p.ex.l p.rep)) (F3 p.k p.pn.l (p.ll.take j) d)) (d+1) _ ((hP.sub hin).mono Sb) (hv.sub hin) (by omega) hnj) ?_;rintro _ _ ⟨a64,c64,rfl⟩;rw[show B6 (B6 (C5 st (d,A8 p.k p.name p.ch p.tg.l p.ex.l p.rep)) (F3 p.k p.pn.l (p.ll.take j) d)) (G8 x (d+1))=(B6 (C5 st (d,A8 p.k p.name p.ch p.tg.l p.ex.l p.rep)) (F3 p.k p.pn.l (p.ll.take (j+1)) d)) by rw[htk,a07]];refine kQ0 [0,2,4,30,31,32] ?_;refine kA2 ?_
 refine WL.nil (A5 (p.ll.length - (j+1)) [(32,.int .i64 (j+1))] (h'':=prB b a64 c64 (B6 (C5 st (d,A8 p.k p.name p.ch p.tg.l p.ex.l p.rep)) (F3 p.k p.pn.l (p.ll.take (j+1)) d))::prW a64 c64 (B6 (C5 st (d,A8 p.k p.name p.ch p.tg.l p.ex.l p.rep)) (F3 p.k p.pn.l (p.ll.take (j+1)) d))::.pt b4 (.cells (prE p).toArray 46 (0,0))::h) (by omega) ?_ Su Sb ⟨a64,c64,j+1,by omega,rfl,rfl,rfl⟩);exact Su;replace c33:=dF c33;rw[List.take_of_length_le (by omega)];refine kQ0 [0,2,4] ?_;refine kQ4 [0,2,67,68,69] ?_
 refine B0 [0,2,67,68] rfl (fun μ F' h'=>∃ a9:Option Addr,∃ c9:Nat,∃ j:Nat,(j<=p.gl.length)/\p.gl.length - j=μ/\F'=[(69,.int .i64 j)]/\prB b a9 c9 (B6 (B6 (C5 st (d,A8 p.k p.name p.ch p.tg.l p.ex.l p.rep)) (F3 p.k p.pn.l p.ll d)) (J8 (p.gl.take j) (d+1)))::prW a9 c9 (B6 (B6 (C5 st (d,A8 p.k p.name p.ch p.tg.l p.ex.l p.rep)) (F3 p.k p.pn.l p.ll d)) (J8 (p.gl.take j) (d+1)))::.pt b4 (.cells (prE p).toArray 46 (0,0))::h=h') (p.gl.length - 0) [(69,.int .i64 0)] (h0:=prB b a9 c9 (B6 (B6 (C5 st (d,A8 p.k p.name p.ch p.tg.l p.ex.l p.rep)) (F3 p.k p.pn.l p.ll d)) (J8 (p.gl.take 0) (d+1)))::prW a9 c9 (B6 (B6 (C5 st (d,A8 p.k p.name p.ch p.tg.l p.ex.l p.rep)) (F3 p.k p.pn.l p.ll d)) (J8 (p.gl.take 0) (d+1)))::.pt b4 (.cells (prE p).toArray 46 (0,0))::h) ?_ Sb ⟨a9,c9,0,Nat.zero_le _,rfl,rfl,rfl⟩ ?_;exact Su;rintro _ _ _ ⟨a9,c9,j,hj,rfl,rfl,rfl⟩;refine B2 rfl ?_;refine kQ1 [0,2,67,68,69,70] ?_
 refine wc (fun c70=>?_) fun c70=>?_
 replace c70:=dT c70;obtain⟨g,hg1⟩:=A3 (l:=p.gl) (k:=j) (by omega);have hgm:=List.mem_of_getElem? hg1;have hnj:(B6 (B6 (C5 st (d,A8 p.k p.name p.ch p.tg.l p.ex.l p.rep)) (F3 p.k p.pn.l p.ll d)) (J8 (p.gl.take j) (d+1))).1.length<=2049:=a08 _ (a08 _ (U3 hn));refine kQ0 [0,2,67,68,69] ?_;refine kA2 ?_;refine xW fun b9=>?_
 refine kQ1 [0,2,9,67,68,69] ?_;refine kA4 ?_;refine WL.perm ((Del.perm (r:=prB b a9 c9 (B6 (B6 (C5 st (d,A8 p.k p.name p.ch p.tg.l p.ex.l p.rep)) (F3 p.k p.pn.l p.ll d)) (J8 (p.gl.take j) (d+1)))) De).trans ((Del.perm (r:=prW a9 c9 (B6 (B6 (C5 st (d,A8 p.k p.name p.ch p.tg.l p.ex.l p.rep)) (F3 p.k p.pn.l p.ll d)) (J8 (p.gl.take j) (d+1)))) De).cons _)) ?_;refine xg (E3 Et Et Et) (b7M hg hp g b a9 c9 (B6 (B6 (C5 st (d,A8 p.k p.name p.ch p.tg.l p.ex.l p.rep)) (F3 p.k p.pn.l p.ll d)) (J8 (p.gl.take j) (d+1))) (d+1) _ ((hO.gs g hgm).mono Sb) (hV.gs g hgm).1 (fun x hx=>⟨(hP.sub (.g hgm hx)).mono Sb,hv.sub (.g hgm hx),ih x (.g hgm hx),by have:=(In.g hgm hx).lt;omega⟩) (by have:=a6c p;omega) hnj) ?_;rintro _ _ ⟨a77,c77,rfl⟩
 rw[show B6 (B6 (B6 (C5 st (d,A8 p.k p.name p.ch p.tg.l p.ex.l p.rep)) (F3 p.k p.pn.l p.ll d)) (J8 (p.gl.take j) (d+1))) (Z6 g (d+1))=(B6 (B6 (C5 st (d,A8 p.k p.name p.ch p.tg.l p.ex.l p.rep)) (F3 p.k p.pn.l p.ll d)) (J8 (p.gl.take (j+1)) (d+1))) by rw[a5Q hg1,a07]];refine kQ0 [0,2,67,68,69] ?_;refine kA2 ?_;refine WL.nil (A5 (p.gl.length - (j+1)) [(69,.int .i64 (j+1))] (h'':=prB b a77 c77 (B6 (B6 (C5 st (d,A8 p.k p.name p.ch p.tg.l p.ex.l p.rep)) (F3 p.k p.pn.l p.ll d)) (J8 (p.gl.take (j+1)) (d+1)))::prW a77 c77 (B6 (B6 (C5 st (d,A8 p.k p.name p.ch p.tg.l p.ex.l p.rep)) (F3 p.k p.pn.l p.ll d)) (J8 (p.gl.take (j+1)) (d+1)))::.pt b4 (.cells (prE p).toArray 46 (0,0))::h) (by omega) ?_ Su Sb ⟨a77,c77,j+1,by omega,rfl,rfl,rfl⟩);exact Su;replace c70:=dF c70
 rw[List.take_of_length_le (by omega),show B6 (B6 (C5 st (d,A8 p.k p.name p.ch p.tg.l p.ex.l p.rep)) (F3 p.k p.pn.l p.ll d)) (J8 p.gl (d+1))=B6 st (G8 p d) by rw[hls,a0N,a07]];refine WC.exit (b1T (h':=prB b a9 c9 (B6 st (G8 p d))::prW a9 c9 (B6 st (G8 p d))::h) (.inr rfl) rfl  Vl Sb ?_);exact⟨a9,c9,rfl⟩
end
section
open Go.Eng Go.Pc Go.Sx Go
open Go.Xp hiding B C2
open Go.Ty (Ty Vr Tok eqT tyV I9 B3 B5 T9 zeroK N3 D5 encV D9)
open Go.Lx (encB C9 textO)
open Go.Ly (Rw I6 C6)
theorem c1z (l:List Tok):(textO l).1.length<=256:=by
 unfold Go.Lx.textO;split
 ·exact Nat.zero_le _
 ·split
  ·exact Nat.zero_le _
  ·rename_i h
   simp only[decide_eq_true_eq] at h;show(Go.Lx.textL none l).length<=256;omega
theorem b4O {st:Ps} {x:Ln} (h:∀ y ∈ st.1,y.text.length<=256):∀ y ∈ (C5 st x).1,y.text.length<=256:=by
 unfold C5;split
 ·exact h
 ·intro y hy
  rcases List.mem_append.1 hy with q | q
  ·exact h y q
  ·rw[List.mem_singleton] at q
   subst q;exact c1z _
theorem a7l:∀ (l:List Ln) {st:Ps},(∀ y ∈ st.1,y.text.length<=256)->∀ y ∈ (B6 st l).1,y.text.length<=256
 | [],_,h=>h
 | x::l,_,h=>a7l l (b4O (x:=x) h)
abbrev c8b (m:View) (p:Pr) (h:List Res) (v:Value) (h':List Res):Prop:=
 ∃ a c bl,v=.tuple #[.slice a (W5 p).1.length c,.int .i64 (W5 p).2]/\Rd m bl a (W5 p).1.length c 3 (fl I6 (W5 p).1)/\h'=bl++h/\((W5 p).2=0->bl=[.row (.slice a (W5 p).1.length c) 53 3 (W5 p).1.length (fl I6 (W5 p).1)])
set_option maxHeartbeats 4000000 in
theorem c0m {m:View} (hg:Glob m) (hp:Pow m) (p:Pr) (h:List Res) (hO:POk m h p) :
 CT Tryz.prog 32 [prV p] h m (fun v _ h'=>c8b m p h v h'):=by
 have hq:W5 p=if mayP p then (if (B6 ([],false) (G8 p 0)).2||!Go.Ly.mayP (B6 ([],false) (G8 p 0)).1 then ([],3) else ((B6 ([],false) (G8 p 0)).1,0)) else ([],2):=rfl
 have hsh:=a7l (G8 p 0) (st:=([],false)) nofun;obtain⟨ST,hST⟩:∃ S,S=B6 ([],false) (G8 p 0):=⟨_,rfl⟩;rw[<- hST] at hq hsh;refine CT.body Tryz.call32 Tryz.func32 rfl Tryz.ntmps32 Lb rfl ?_;refine j0 ?_;refine xX fun b1=>?_
 refine kQ2 [1] ?_;refine kA1 ?_;refine xf (E1 Et) (b1V hg p (hO.mono Sb)) ?_;refine kQ1 [1,7] ?_;refine wc (fun c7=>?_) fun c7=>?_
 have d7:mayP p=false:=by simpa using c7
 rw[if_neg (H5 d7)] at hq;refine kQ2 [2,3] ?_;refine w2 h ?_;exact⟨none,0,[],by rw[hq];rfl,by rw[hq];exact Rd.nilF I6 3 _ _,rfl,by rw[hq];intro e;cases e⟩;have d7:mayP p=true:=by simpa using c7
 rw[if_pos d7] at hq;obtain⟨hv,hc⟩:=c1N d7;refine kQ0 [1] ?_;refine kA1 ?_;refine xX fun b9=>?_
 refine kQ1 [1,4] ?_;refine kA2 ?_;refine WL.addNil 53 3 ?_;refine WL.perm ((Del.perm (r:=prB b9 none 0 ([],false)) De).trans ((Del.perm (r:=prW none 0 ([],false)) De).cons _)) ?_;refine xg (E3 Et Et Ek) (c1I hg hp p b9 none 0 ([],false) 0 _ (hO.mono Sb) hv ⟨by omega,by omega⟩ (Nat.zero_le _)) ?_;rintro _ _ ⟨a12,c12,rfl⟩;rw[<- hST];refine kR a12 fun p12 q12 r12=>?_
 refine kQ0 [4] ?_;refine kA6 ?_;refine zG (fun hc=>PO.nilCheck (Eg hc)) ?_;refine kA2 ?_;refine A6 (GU.f rfl rfl) (fun hc=>⟨Ef,(E1 (Eg hc)),Ly7.may_ct hg a12 _ c12 ST.1 _ (iR r12 p12 q12) (fun x hx=>by have:=hsh x hx;omega)⟩) Lb ?_;refine kQ2 [4,24] ?_;refine wc (fun c24=>?_) fun c24=>?_
 rw[if_pos (by simpa using c24)] at hq;refine kQ2 [2,3] ?_;refine w2 h ?_;exact⟨none,0,[],by rw[hq];rfl,by rw[hq];exact Rd.nilF I6 3 _ _,rfl,by rw[hq];intro e;cases e⟩;rw[if_neg (by simpa using c24)] at hq;refine kQ0 [4] ?_;refine kQ6 [2,3] ?_;refine w2 (prW a12 c12 ST::h) ?_;exact⟨a12,c12,[prW a12 c12 ST],by rw[hq],by rw[hq];exact Rd.ofRow r12 p12 q12 (List.mem_singleton.2 rfl),rfl,fun _=>by rw[hq]⟩
end
section
open Go.Eng Go.Xp Go
open Go.Lx (encB C9)
end
section
open Go.Eng Go.Pc Go
open Go.Xp hiding B C2
open Go.Ty (Ty Vr eqT tyV I9 PrOk VOk prL encV D9 N3 D5)
open Go.Lx (encB C9)
end
section
open Go.Eng Go.Pc Go
open Go.Xp hiding B C2
open Go.Ty (Ty Vr eqT tyV I9 PrOk VOk encV D9 N3 D5 eqI a2L a2I)
open Go.Lx (encB C9)
def eqB (x y:B):Bool:=x==y
theorem c5m {x y:B} (h:(!(x==y))=true):eqB x y=false:=by simpa [eqB] using h
theorem c5h {x y:B} (h:(!(x==y))=false):eqB x y=true:=by simpa [eqB] using h
theorem b3D (s1 s2:Option Addr) (n1 c1 n2 c2:Nat) (xs ys:List _) (h:List Res) (m:View) (h1:Rd m h s1 n1 c1 1 (fl encB xs)) (h2:Rd m h s2 n2 c2 1 (fl encB ys)) :
 CT Tryz.prog 110 [.slice s1 n1 c1,.slice s2 n2 c2] h m (A4 h (.bool (eqL eqB xs ys))):=by
 have l1:=h1.lenF C9 (by decide);have l2:=h2.lenF C9 (by decide);have m1:=h1.mx;have m2:=h2.mx;have k1:=h1.le;have k2:=h2.le;refine CT.body Tryz.call110 Tryz.func110 rfl Tryz.ntmps110 Lb rfl ?_;refine kQ1 [0,1] ?_;refine kQ5 [0,1,10] ?_;refine wc (fun c10=>?_) fun c10=>?_
 replace c10:=a1I c10;refine kQ1 [4] ?_;refine wT h ?_;exact⟨by rw[R3 _ _ _ (by omega)],rfl⟩;replace c10:=a1U c10;refine kQ0 [0,1] ?_;refine kQ1 [0,1,5] ?_;refine B0 [0,1] rfl (fun μ F' h'=>∃ k:Nat,(k<=n1/\eqL eqB xs ys=eqL eqB (xs.drop k) (ys.drop k))/\n1 - k=μ/\F'=[(5,.int .i64 k)]/\h=h') (n1 - 0) [(5,.int .i64 0)] (h0:=h) ?_ Sb ⟨0,⟨by omega,by simp⟩,rfl,rfl,rfl⟩ ?_;exact Su;rintro _ _ _ ⟨k,⟨hk,hJ⟩,rfl,rfl,rfl⟩;refine B2 rfl ?_;refine kQ4 [0,1,5,14] ?_;refine wc (fun c14=>?_) fun c14=>?_
 replace c14:=dT c14;obtain⟨x,hx⟩:=A3 (l:=xs) (k:=k) (by omega);obtain⟨y,hy⟩:=A3 (l:=ys) (k:=k) (by omega);rw[P2 _ hx hy] at hJ;refine kQ0 [0,1,5] ?_;refine dS [] (.op 0 (.op 1 (.op 2 (.op 3 (.op 4 (.op 5 (.op 6 (.op 7 .nil)))))))) [8] D7 ?_;refine kA8 ?_;refine SR.nil rfl rfl ?_;refine xG (R4 Et Et) ?_;refine kQ0 [0,1,5,25] ?_;refine wc (fun c25=>?_) fun c25=>?_
 refine kQ1 [4] ?_;refine wT h ?_;exact⟨by rw[hJ,c5m c25];rfl,rfl⟩;rw[c5h c25,Bool.true_and] at hJ;refine kQ0 [0,1,5] ?_;refine kA3 ?_;refine WL.nil (A5 (n1 - (k+1)) [(5,.int .i64 (k+1))] (h'':=h) (by omega) ?_ Su Sb ⟨k+1,⟨by omega,hJ⟩,rfl,rfl,rfl⟩);exact Su;replace c14:=dF c14;refine kQ0 [] ?_;refine kQ1 [4] ?_;refine wT h ?_;exact⟨by rw[hJ,List.drop_eq_nil_of_le (by omega),List.drop_eq_nil_of_le (by omega)];rfl,rfl⟩
theorem a7m (s1 s2:Option Addr) (n1 c1 n2 c2:Nat) (xs ys:List _) (h:List Res) (m:View) (h1:Rd m h s1 n1 c1 1 (fl N3 xs)) (h2:Rd m h s2 n2 c2 1 (fl N3 ys)) :
 CT Tryz.prog 175 [.slice s1 n1 c1,.slice s2 n2 c2] h m (A4 h (.bool (eqL eqI xs ys))):=by
 have l1:=h1.lenF D5 (by decide);have l2:=h2.lenF D5 (by decide);have m1:=h1.mx;have m2:=h2.mx;have k1:=h1.le;have k2:=h2.le;refine CT.body Tryz.call175 Tryz.func175 rfl Tryz.ntmps175 Lb rfl ?_;refine kQ1 [0,1] ?_;refine kQ5 [0,1,10] ?_;refine wc (fun c10=>?_) fun c10=>?_
 replace c10:=a1I c10;refine kQ1 [4] ?_;refine wT h ?_;exact⟨by rw[R3 _ _ _ (by omega)],rfl⟩;replace c10:=a1U c10;refine kQ0 [0,1] ?_;refine kQ1 [0,1,5] ?_;refine B0 [0,1] rfl (fun μ F' h'=>∃ k:Nat,(k<=n1/\eqL eqI xs ys=eqL eqI (xs.drop k) (ys.drop k))/\n1 - k=μ/\F'=[(5,.int .i64 k)]/\h=h') (n1 - 0) [(5,.int .i64 0)] (h0:=h) ?_ Sb ⟨0,⟨by omega,by simp⟩,rfl,rfl,rfl⟩ ?_;exact Su;rintro _ _ _ ⟨k,⟨hk,hJ⟩,rfl,rfl,rfl⟩;refine B2 rfl ?_;refine kQ4 [0,1,5,14] ?_;refine wc (fun c14=>?_) fun c14=>?_
 replace c14:=dT c14;obtain⟨x,hx⟩:=A3 (l:=xs) (k:=k) (by omega);obtain⟨y,hy⟩:=A3 (l:=ys) (k:=k) (by omega);rw[P2 _ hx hy] at hJ;refine kQ0 [0,1,5] ?_;refine dS [] (.op 0 (.op 1 (.op 2 (.op 3 (.op 4 (.op 5 (.op 6 (.op 7 .nil)))))))) [8] D7 ?_;refine kA8 ?_;refine SR.nil rfl rfl ?_;refine kQ1 [0,1,5,25] ?_;refine wc (fun c25=>?_) fun c25=>?_
 refine kQ1 [4] ?_;refine wT h ?_;exact⟨by rw[hJ,a2I c25];rfl,rfl⟩;rw[a2L c25,Bool.true_and] at hJ;refine kQ0 [0,1,5] ?_;refine kA3 ?_;refine WL.nil (A5 (n1 - (k+1)) [(5,.int .i64 (k+1))] (h'':=h) (by omega) ?_ Su Sb ⟨k+1,⟨by omega,hJ⟩,rfl,rfl,rfl⟩);exact Su;replace c14:=dF c14;refine kQ0 [] ?_;refine kQ1 [4] ?_;refine wT h ?_;exact⟨by rw[hJ,List.drop_eq_nil_of_le (by omega),List.drop_eq_nil_of_le (by omega)];rfl,rfl⟩
structure GK (m:View) (h:List Res) (g:Gu):Prop where
 o:GOk m h g
 b:∀ x ∈ g.bl,POk m h x
theorem GK.mono {m:View} {h h':List Res} {g:Gu} (q:GK m h g) (r:h.Sublist h'):GK m h' g:=⟨q.o.mono r,fun x hx=>(q.b x hx).mono r⟩
theorem a2z (xs:List Ex) (ys:List Ex) (s1 s2:Option Addr) (n1 c1 n2 c2:Nat) (h:List Res) (m:View) (h1:Rd m h s1 n1 c1 6 (fl exE xs)) (h2:Rd m h s2 n2 c2 6 (fl exE ys)) (o1:∀ x ∈ xs,TOk m h x) (o2:∀ x ∈ ys,TOk m h x) :
 CT Tryz.prog 56 [.slice s1 n1 c1,.slice s2 n2 c2] h m (A4 h (.bool (eqL E8 xs ys))):=by
 have l1:=h1.lenF a4y (by decide);have l2:=h2.lenF a4y (by decide);have m1:=h1.mx;have m2:=h2.mx;have k1:=h1.le;have k2:=h2.le;refine CT.body Tryz.call56 Tryz.func56 rfl Tryz.ntmps56 Lb rfl ?_;refine kQ1 [0,1] ?_;refine kQ5 [0,1,10] ?_;refine wc (fun c10=>?_) fun c10=>?_
 replace c10:=a1I c10;refine kQ1 [4] ?_;refine wT h ?_;exact⟨by rw[R3 _ _ _ (by omega)],rfl⟩;replace c10:=a1U c10;refine kQ0 [0,1] ?_;refine kQ1 [0,1,5] ?_;refine B0 [0,1] rfl (fun μ F' h'=>∃ k:Nat,(k<=n1/\eqL E8 xs ys=eqL E8 (xs.drop k) (ys.drop k))/\n1 - k=μ/\F'=[(5,.int .i64 k)]/\h=h') (n1 - 0) [(5,.int .i64 0)] (h0:=h) ?_ Sb ⟨0,⟨by omega,by simp⟩,rfl,rfl,rfl⟩ ?_;exact Su;rintro _ _ _ ⟨k,⟨hk,hJ⟩,rfl,rfl,rfl⟩;refine B2 rfl ?_;refine kQ4 [0,1,5,14] ?_;refine wc (fun c14=>?_) fun c14=>?_
 replace c14:=dT c14;obtain⟨x,hx⟩:=A3 (l:=xs) (k:=k) (by omega);obtain⟨y,hy⟩:=A3 (l:=ys) (k:=k) (by omega);rw[P2 _ hx hy] at hJ;have hxm:=List.mem_of_getElem? hx;have hxo:=o1 x hxm;have hyo:=o2 y (List.mem_of_getElem? hy);refine kQ0 [0,1,5] ?_;refine dS [] (.op 0 (.op 1 (.op 2 (.op 3 (.op 4 (.op 5 (.op 6 (.op 7 .nil)))))))) [8,9] D7 ?_;refine kA8 ?_;refine SR.nil rfl rfl ?_;refine xf (E2 Et Et) (a0S x y _ _ (hxo.mono Sb) (hyo.mono Sb)) ?_;refine kQ1 [0,1,5,26] ?_;refine wc (fun c26=>?_) fun c26=>?_
 have d26:E8 x y=false:=by simpa using c26
 rw[d26] at hJ;refine kQ1 [4] ?_;refine wT h ?_;exact⟨by rw[hJ];rfl,rfl⟩;have d26:E8 x y=true:=by simpa using c26
 rw[d26,Bool.true_and] at hJ;refine kQ0 [0,1,5] ?_;refine kA3 ?_;refine WL.nil (A5 (n1 - (k+1)) [(5,.int .i64 (k+1))] (h'':=h) (by omega) ?_ Su Sb ⟨k+1,⟨by omega,hJ⟩,rfl,rfl,rfl⟩);exact Su;replace c14:=dF c14;refine kQ0 [] ?_;refine kQ1 [4] ?_;refine wT h ?_;exact⟨by rw[hJ,List.drop_eq_nil_of_le (by omega),List.drop_eq_nil_of_le (by omega)];rfl,rfl⟩
theorem a3R (xs:List Pr) (ih:∀ x ∈ xs,∀ (y:Pr) (h:List Res) (m:View),POk m h x->POk m h y->CT Tryz.prog 34 [prV x,prV y] h m (A4 h (.bool (K2 x y)))) (ys:List Pr) (s1 s2:Option Addr) (n1 c1 n2 c2:Nat) (h:List Res) (m:View) (h1:Rd m h s1 n1 c1 42 (fl prE xs)) (h2:Rd m h s2 n2 c2 42 (fl prE ys)) (o1:∀ x ∈ xs,POk m h x) (o2:∀ x ∈ ys,POk m h x) :
 CT Tryz.prog 58 [.slice s1 n1 c1,.slice s2 n2 c2] h m (A4 h (.bool (eqL K2 xs ys))):=by
 have l1:=h1.lenF a2u (by decide);have l2:=h2.lenF a2u (by decide);have m1:=h1.mx;have m2:=h2.mx;have k1:=h1.le;have k2:=h2.le;refine CT.body Tryz.call58 Tryz.func58 rfl Tryz.ntmps58 Lb rfl ?_;refine kQ1 [0,1] ?_;refine kQ5 [0,1,10] ?_;refine wc (fun c10=>?_) fun c10=>?_
 replace c10:=a1I c10;refine kQ1 [4] ?_;refine wT h ?_;exact⟨by rw[R3 _ _ _ (by omega)],rfl⟩;replace c10:=a1U c10;refine kQ0 [0,1] ?_;refine kQ1 [0,1,5] ?_;refine B0 [0,1] rfl (fun μ F' h'=>∃ k:Nat,(k<=n1/\eqL K2 xs ys=eqL K2 (xs.drop k) (ys.drop k))/\n1 - k=μ/\F'=[(5,.int .i64 k)]/\h=h') (n1 - 0) [(5,.int .i64 0)] (h0:=h) ?_ Sb ⟨0,⟨by omega,by simp⟩,rfl,rfl,rfl⟩ ?_;exact Su;rintro _ _ _ ⟨k,⟨hk,hJ⟩,rfl,rfl,rfl⟩;refine B2 rfl ?_;refine kQ4 [0,1,5,14] ?_;refine wc (fun c14=>?_) fun c14=>?_
 replace c14:=dT c14;obtain⟨x,hx⟩:=A3 (l:=xs) (k:=k) (by omega);obtain⟨y,hy⟩:=A3 (l:=ys) (k:=k) (by omega);rw[P2 _ hx hy] at hJ;have hxm:=List.mem_of_getElem? hx;have hxo:=o1 x hxm;have hyo:=o2 y (List.mem_of_getElem? hy);refine kQ0 [0,1,5] ?_;refine dS [] (.op 0 (.op 1 (.op 2 (.op 3 (.op 4 (.op 5 (.op 6 (.op 7 .nil)))))))) [8,9] D7 ?_;refine kA8 ?_;refine SR.nil rfl rfl ?_;refine xf (E2 Et Et) (ih x hxm y _ _ (hxo.mono Sb) (hyo.mono Sb)) ?_;refine kQ1 [0,1,5,26] ?_;refine wc (fun c26=>?_) fun c26=>?_
 have d26:K2 x y=false:=by simpa using c26
 rw[d26] at hJ;refine kQ1 [4] ?_;refine wT h ?_;exact⟨by rw[hJ];rfl,rfl⟩;have d26:K2 x y=true:=by simpa using c26
 rw[d26,Bool.true_and] at hJ;refine kQ0 [0,1,5] ?_;refine kA3 ?_;refine WL.nil (A5 (n1 - (k+1)) [(5,.int .i64 (k+1))] (h'':=h) (by omega) ?_ Su Sb ⟨k+1,⟨by omega,hJ⟩,rfl,rfl,rfl⟩);exact Su;replace c14:=dF c14;refine kQ0 [] ?_;refine kQ1 [4] ?_;refine wT h ?_;exact⟨by rw[hJ,List.drop_eq_nil_of_le (by omega),List.drop_eq_nil_of_le (by omega)];rfl,rfl⟩
theorem b8W (x y:Int):eqI x y=true↔x=y:=by simp[eqI]
theorem c0d (xs ys:List Int):eqL eqI xs ys=(xs==ys):=by
 rw[Bool.eq_iff_iff,b1X b8W];simp
theorem b9r {m:View} {h:List Res} {v:Vr} (q:VOk m h v):Rd m h v.a v.n v.c 1 (fl N3 v.items):=q.rd
theorem a9M (u1 u2:Bool) (s1 s2:Option Addr) (n1 c1 n2 c2:Nat) (xs ys:List Vr) (h:List Res) (m:View) (p1:PrOk m h s1 n1 c1 xs) (p2:PrOk m h s2 n2 c2 ys) :
 CT Tryz.prog 111 [.agg #[.bool u1,.slice s1 n1 c1],.agg #[.bool u2,.slice s2 n2 c2]] h m (A4 h (.bool (a1g u1 xs u2 ys))):=by
 have h1:=p1.rd;have h2:=p2.rd;have l1:=h1.lenF D9 (by decide);have l2:=h2.lenF D9 (by decide);have m1:=h1.mx;have m2:=h2.mx;have k1:=h1.le;have k2:=h2.le;have e0:a1g u1 xs u2 ys=((u1==u2)&&eqL U8 xs ys):=rfl;refine CT.body Tryz.call111 Tryz.func111 rfl Tryz.ntmps111 Lb rfl ?_;refine j0 ?_;refine xX fun b2=>?_
 refine xX fun b3=>?_
 refine kQ1 [2,3] ?_;refine kA4 ?_;refine xG (c1V uu4 Et Et) ?_;refine kQ9 [2,3,19] ?_;refine wc (fun c19=>?_) fun c19=>?_
 have d19:a1g u1 xs u2 ys=false:=by
  rw[e0];rcases Bool.or_eq_true_iff.1 c19 with c | c
  ·have:(u1==u2)=false:=by simpa using c
   rw[this];rfl
  ·rw[R3 U8 xs ys (by simp at c;omega),Bool.and_false]
 refine kQ1 [4] ?_;refine wT h ?_;exact⟨by rw[d19],rfl⟩;have d19:(u1==u2)=true/\n1=n2:=by
  have:=Bool.or_eq_false_iff.1 c19;exact⟨by simpa using this.1,by have:=this.2;simp at this;omega⟩
 rw[d19.1,Bool.true_and] at e0;refine kQ0 [2,3] ?_;refine kQ1 [2,3,5] ?_;refine B0 [2,3] rfl (fun μ F' h'=>∃ k:Nat,(k<=n1/\a1g u1 xs u2 ys=eqL U8 (xs.drop k) (ys.drop k))/\n1 - k=μ/\F'=[(5,.int .i64 k)]/\.pt b3 (.cells [.bool u2,.slice s2 n2 c2].toArray 41 (0,0))::.pt b2 (.cells [.bool u1,.slice s1 n1 c1].toArray 41 (0,0))::h=h') (n1 - 0) [(5,.int .i64 0)] (h0:=.pt b3 (.cells [.bool u2,.slice s2 n2 c2].toArray 41 (0,0))::.pt b2 (.cells [.bool u1,.slice s1 n1 c1].toArray 41 (0,0))::h) ?_ Sb ⟨0,⟨by omega,by rw[e0];simp⟩,rfl,rfl,rfl⟩ ?_;exact Su;rintro _ _ _ ⟨k,⟨hk,hJ⟩,rfl,rfl,rfl⟩;refine B2 rfl ?_;refine kQ5 [2,3,5,24] ?_;refine wc (fun c24=>?_) fun c24=>?_
 replace c24:=dT c24;obtain⟨x,hx⟩:=A3 (l:=xs) (k:=k) (by omega);obtain⟨y,hy⟩:=A3 (l:=ys) (k:=k) (by omega);rw[P2 _ hx hy] at hJ;have hxo:=b9r (p1.ok x (List.mem_of_getElem? hx));have hyo:=b9r (p2.ok y (List.mem_of_getElem? hy));have hi:=c0d x.items y.items;refine kQ0 [2,3,5] ?_;refine dS [] (.op 0 (.op 1 (.op 2 (.op 3 (.op 4 (.op 5 (.op 6 (.op 7 (.op 8 (.op 9 (.op 10 (.op 11 (.op 12 (.op 13 (.op 14 (.op 15 (.op 16 (.op 17 (.op 18 (.op 19 (.op 20 (.op 21 (.op 22 (.op 23 (.op 24 (.op 25 .nil)))))))))))))))))))))))))) [26,27,28] D7 ?_;refine a7y ?_;refine yG rfl (R4 Et Et) ?_;refine kA1 ?_;refine B7 rfl rfl (GU.f rfl rfl) (fun hc=>PO.fieldAddr b9Y rfl (Nat.ne_of_beq_eq_false rfl) Et) Lb ?_;refine B7 rfl rfl (GU.f rfl rfl) (fun hc=>D3 c5K rfl (Eg hc) Me rfl) Lb ?_;refine B7 rfl rfl (GU.f rfl rfl) (fun hc=>PO.move Et) Lb ?_
 refine B7 rfl rfl (GU.f rfl rfl) (fun hc=>F2 a2G.und a2G.size a2G.posz (Eg hc) (Eg hc) (h1.mono Vl Sb) rfl (by omega)) Lb ?_;refine B7 rfl rfl (GU.f rfl rfl) (fun hc=>F6 b2W rfl (Nat.ne_of_beq_eq_false rfl) D9 (Nat.succ_pos _) (h1.mono Vl Sb) (by assumption) (Eg hc)) Lb ?_;refine B7 rfl rfl (GU.f rfl rfl) (fun hc=>G4 b6H rfl D9 (h1.mono Vl Sb) (Eg hc) (by assumption) rfl) Lb ?_;refine B7 rfl rfl (GU.f rfl rfl) (fun hc=>PO.fieldAddr b9Y rfl (Nat.ne_of_beq_eq_false rfl) Et) Lb ?_;refine B7 rfl rfl (GU.f rfl rfl) (fun hc=>D3 c5K rfl (Eg hc) Me rfl) Lb ?_;refine B7 rfl rfl (GU.f rfl rfl) (fun hc=>PO.move Et) Lb ?_;refine B7 rfl rfl (GU.f rfl rfl) (fun hc=>F2 a2G.und a2G.size a2G.posz (Eg hc) (Eg hc) (h2.mono Vl Sb) rfl (by omega)) Lb ?_;refine B7 rfl rfl (GU.f rfl rfl) (fun hc=>F6 b2W rfl (Nat.ne_of_beq_eq_false rfl) D9 (Nat.succ_pos _) (h2.mono Vl Sb) (by assumption) (Eg hc)) Lb ?_
 refine B7 rfl rfl (GU.f rfl rfl) (fun hc=>G4 b6H rfl D9 (h2.mono Vl Sb) (Eg hc) (by assumption) rfl) Lb ?_;refine SR.nil rfl rfl ?_;refine A6 (GU.f rfl rfl) (fun hc=>⟨Ef,(E2 (Eg hc) (Eg hc)),a7m _ _ _ _ _ _ x.items y.items _ _ (hxo.mono Vl Sb) (hyo.mono Vl Sb)⟩) Lb ?_;refine kQ2 [2,3,5,55] ?_;refine wc (fun c55=>?_) fun c55=>?_
 replace c55:((!(x.tag==y.tag))||!(eqL eqI x.items y.items))=true:=c55;have d55:U8 x y=false:=by
  unfold U8;rw[<- hi];cases hq:(x.tag==y.tag) <;> cases hr:eqL eqI x.items y.items <;> simp_all
 rw[d55] at hJ;refine kQ1 [4] ?_;refine wT h ?_;exact⟨by rw[hJ];rfl,rfl⟩;replace c55:((!(x.tag==y.tag))||!(eqL eqI x.items y.items))=false:=c55;have d55:U8 x y=true:=by
  unfold U8;rw[<- hi];cases hq:(x.tag==y.tag) <;> cases hr:eqL eqI x.items y.items <;> simp_all
 rw[d55,Bool.true_and] at hJ;refine kQ0 [2,3,5] ?_;refine kA3 ?_;refine WL.nil (A5 (n1 - (k+1)) [(5,.int .i64 (k+1))] (h'':=.pt b3 (.cells [.bool u2,.slice s2 n2 c2].toArray 41 (0,0))::.pt b2 (.cells [.bool u1,.slice s1 n1 c1].toArray 41 (0,0))::h) (by omega) ?_ Su Sb ⟨k+1,⟨by omega,hJ⟩,rfl,rfl,rfl⟩);exact Su;replace c24:=dF c24;refine kQ0 [] ?_;refine kQ1 [4] ?_;refine wT h ?_;exact⟨by rw[hJ,List.drop_eq_nil_of_le (by omega),List.drop_eq_nil_of_le (by omega)];rfl,rfl⟩
theorem a9P (x:Gu) (ih:∀ z ∈ x.bl,∀ (y:Pr) (h:List Res) (m:View),POk m h z->POk m h y->CT Tryz.prog 34 [prV z,prV y] h m (A4 h (.bool (K2 z y)))) (y:Gu) (h:List Res) (m:View) (hx:GK m h x) (hy:GK m h y) :
 CT Tryz.prog 109 [guV x,guV y] h m (A4 h (.bool (a0c x y))):=by
 have v0:=View.le.refl m;refine CT.body Tryz.call109 Tryz.func109 rfl Tryz.ntmps109 Lb rfl ?_;refine j0 ?_;refine xX fun b2=>?_
 refine xX fun b3=>?_
 refine kQ1 [2,3] ?_;refine a9R ?_;refine zG (fun hc=>N8 (Eg hc) (Eg hc)) ?_;refine kA6 ?_;refine A6 (GU.t rfl rfl) (fun hc=>⟨Ef,(E2 (Eg hc) (Eg hc)),a0S x.cond y.cond _ _ (hx.o.cond.t.mono Sb) (hy.o.cond.t.mono Sb)⟩) Lb ?_;refine kA6 ?_;refine A6 (GU.t rfl rfl) (fun hc=>⟨Ef,(E2 (Eg hc) (Eg hc)),a0S x.ch y.ch _ _ (hx.o.ch.t.mono Sb) (hy.o.ch.t.mono Sb)⟩) Lb ?_;refine kA6 ?_;refine A6 (GU.t rfl rfl) (fun hc=>⟨Ef,(E2 (Eg hc) (Eg hc)),a0S x.time y.time _ _ (hx.o.time.t.mono Sb) (hy.o.time.t.mono Sb)⟩) Lb ?_;refine kA6 ?_;refine A6 (GU.t rfl rfl) (fun hc=>⟨Ef,(E2 (Eg hc) (Eg hc)),a2z x.tg.l y.tg.l _ _ _ _ _ _ _ _ (hx.o.tg.rd.mono v0 Sb) (hy.o.tg.rd.mono v0 Sb) (fun z hz=>(hx.o.tg.ok z hz).t.mono Sb) (fun z hz=>(hy.o.tg.ok z hz).t.mono Sb)⟩) Lb ?_;refine kA6 ?_
 refine A6 (GU.t rfl rfl) (fun hc=>⟨Ef,(E2 (Eg hc) (Eg hc)),a2z x.vl.l y.vl.l _ _ _ _ _ _ _ _ (hx.o.vl.rd.mono v0 Sb) (hy.o.vl.rd.mono v0 Sb) (fun z hz=>(hx.o.vl.ok z hz).t.mono Sb) (fun z hz=>(hy.o.vl.ok z hz).t.mono Sb)⟩) Lb ?_;refine kA6 ?_;refine A6 (GU.t rfl rfl) (fun hc=>⟨Ef,(E2 (Eg hc) (Eg hc)),a3R x.bl ih y.bl _ _ _ _ _ _ _ _ (hx.o.b.mono v0 Sb) (hy.o.b.mono v0 Sb) (fun z hz=>(hx.b z hz).mono Sb) (fun z hz=>(hy.b z hz).mono Sb)⟩) Lb ?_;refine kQ2 [4] ?_;refine wT h ?_;exact⟨by rw[a7Y],rfl⟩
theorem a8Z (xs:List Gu) (ih:∀ x ∈ xs,∀ z ∈ x.bl,∀ (y:Pr) (h:List Res) (m:View),POk m h z->POk m h y->CT Tryz.prog 34 [prV z,prV y] h m (A4 h (.bool (K2 z y)))) (ys:List Gu) (s1 s2:Option Addr) (n1 c1 n2 c2:Nat) (h:List Res) (m:View) (h1:Rd m h s1 n1 c1 23 (fl guE xs)) (h2:Rd m h s2 n2 c2 23 (fl guE ys)) (o1:∀ x ∈ xs,GK m h x) (o2:∀ x ∈ ys,GK m h x) :
 CT Tryz.prog 57 [.slice s1 n1 c1,.slice s2 n2 c2] h m (A4 h (.bool (eqL a0c xs ys))):=by
 have l1:=h1.lenF a5M (by decide);have l2:=h2.lenF a5M (by decide);have m1:=h1.mx;have m2:=h2.mx;have k1:=h1.le;have k2:=h2.le;refine CT.body Tryz.call57 Tryz.func57 rfl Tryz.ntmps57 Lb rfl ?_;refine kQ1 [0,1] ?_;refine kQ5 [0,1,10] ?_;refine wc (fun c10=>?_) fun c10=>?_
 replace c10:=a1I c10;refine kQ1 [4] ?_;refine wT h ?_;exact⟨by rw[R3 _ _ _ (by omega)],rfl⟩;replace c10:=a1U c10;refine kQ0 [0,1] ?_;refine kQ1 [0,1,5] ?_;refine B0 [0,1] rfl (fun μ F' h'=>∃ k:Nat,(k<=n1/\eqL a0c xs ys=eqL a0c (xs.drop k) (ys.drop k))/\n1 - k=μ/\F'=[(5,.int .i64 k)]/\h=h') (n1 - 0) [(5,.int .i64 0)] (h0:=h) ?_ Sb ⟨0,⟨by omega,by simp⟩,rfl,rfl,rfl⟩ ?_;exact Su;rintro _ _ _ ⟨k,⟨hk,hJ⟩,rfl,rfl,rfl⟩;refine B2 rfl ?_;refine kQ4 [0,1,5,14] ?_;refine wc (fun c14=>?_) fun c14=>?_
 replace c14:=dT c14;obtain⟨x,hx⟩:=A3 (l:=xs) (k:=k) (by omega);obtain⟨y,hy⟩:=A3 (l:=ys) (k:=k) (by omega);rw[P2 _ hx hy] at hJ;have hxm:=List.mem_of_getElem? hx;have hxo:=o1 x hxm;have hyo:=o2 y (List.mem_of_getElem? hy);refine kQ0 [0,1,5] ?_;refine dS [] (.op 0 (.op 1 (.op 2 (.op 3 (.op 4 (.op 5 (.op 6 (.op 7 .nil)))))))) [8,9] D7 ?_;refine kA8 ?_;refine SR.nil rfl rfl ?_;refine xf (E2 Et Et) (a9P x (ih x hxm) y _ _ (hxo.mono Sb) (hyo.mono Sb)) ?_;refine kQ1 [0,1,5,26] ?_;refine wc (fun c26=>?_) fun c26=>?_
 have d26:a0c x y=false:=by simpa using c26
 rw[d26] at hJ;refine kQ1 [4] ?_;refine wT h ?_;exact⟨by rw[hJ];rfl,rfl⟩;have d26:a0c x y=true:=by simpa using c26
 rw[d26,Bool.true_and] at hJ;refine kQ0 [0,1,5] ?_;refine kA3 ?_;refine WL.nil (A5 (n1 - (k+1)) [(5,.int .i64 (k+1))] (h'':=h) (by omega) ?_ Su Sb ⟨k+1,⟨by omega,hJ⟩,rfl,rfl,rfl⟩);exact Su;replace c14:=dF c14;refine kQ0 [] ?_;refine kQ1 [4] ?_;refine wT h ?_;exact⟨by rw[hJ,List.drop_eq_nil_of_le (by omega),List.drop_eq_nil_of_le (by omega)];rfl,rfl⟩
structure SK (m:View) (h:List Res) (s:Sp):Prop where
 o:SOk m h s
 b:∀ x ∈ s.bl,POk m h x
theorem SK.mono {m:View} {h h':List Res} {s:Sp} (q:SK m h s) (r:h.Sublist h'):SK m h' s:=⟨q.o.mono r,fun x hx=>(q.b x hx).mono r⟩
theorem b9K {x y:Fo} (h:(!(a1R x y))=true):a1R x y=false:=by simpa using h
theorem b9t {x y:Fo} (h:(!(a1R x y))=false):a1R x y=true:=by simpa using h
set_option maxHeartbeats 1000000 in
theorem b0U (x:Sp) (ih:∀ z ∈ x.bl,∀ (y:Pr) (h:List Res) (m:View),POk m h z->POk m h y->CT Tryz.prog 34 [prV z,prV y] h m (A4 h (.bool (K2 z y)))) (y:Sp) (h:List Res) (m:View) (hx:SK m h x) (hy:SK m h y) :
 CT Tryz.prog 59 [spV x,spV y] h m (A4 h (.bool (a3b x y))):=by
 have v0:=View.le.refl m;have f1:=hx.o.fr;have f2:=hy.o.fr;have m1:=f1.mx;have m2:=f2.mx;have k1:=f1.le;have k2:=f2.le;refine CT.body Tryz.call59 Tryz.func59 rfl Tryz.ntmps59 Lb rfl ?_;refine j0 ?_;refine xX fun b2=>?_
 refine xX fun b3=>?_
 refine kQ1 [2,3] ?_;refine a9R ?_;refine E6 (GU.f rfl rfl) (fun hc=>b2b b1U (by kernel_rfl) (by kernel_rfl) (Eg hc) (Eg hc) rfl) Lb ?_;refine c3e [2,3,26] ?_;refine wc (fun c26=>?_) fun c26=>?_
 have d26:a3b x y=false:=b7u c26;refine kQ1 [4] ?_;refine wT h ?_;exact⟨by rw[d26],rfl⟩;have d26:=b56 (x:=x) (y:=y) c26;obtain⟨hlen,e0⟩:=d26;refine kQ0 [2,3] ?_;refine kQ1 [2,3,5] ?_;refine B0 [2,3] rfl (fun μ F' h'=>∃ k:Nat,(k<=x.fs.l.length/\eqL a1R x.fs.l y.fs.l=eqL a1R (x.fs.l.drop k) (y.fs.l.drop k))/\x.fs.l.length - k=μ/\F'=[(5,.int .i64 k)]/\.pt b3 (.cells (spE y).toArray 44 (0,0))::.pt b2 (.cells (spE x).toArray 44 (0,0))::h=h') (x.fs.l.length - 0) [(5,.int .i64 0)] (h0:=.pt b3 (.cells (spE y).toArray 44 (0,0))::.pt b2 (.cells (spE x).toArray 44 (0,0))::h) ?_ Sb ⟨0,⟨by omega,by simp⟩,rfl,rfl,rfl⟩ ?_;exact Su;rintro _ _ _ ⟨k,⟨hk,hJ⟩,rfl,rfl,rfl⟩;refine B2 rfl ?_;refine kQ5 [2,3,5,31] ?_;refine wc (fun c31=>?_) fun c31=>?_
 replace c31:=dT c31;obtain⟨u,hu⟩:=A3 (l:=x.fs.l) (k:=k) (by omega);obtain⟨v,hv⟩:=A3 (l:=y.fs.l) (k:=k) (by omega);rw[P2 _ hu hv] at hJ;refine kQ0 [2,3,5] ?_;refine dS [] (.op 0 (.op 1 (.op 2 (.op 3 (.op 4 (.op 5 (.op 6 (.op 7 (.op 8 (.op 9 .nil)))))))))) [10] D7 ?_;refine a9R ?_;refine SR.nil rfl rfl ?_;refine xG (b2p (o:=37) b6o (by kernel_rfl) (by kernel_rfl) Et Et (by kernel_rfl) rfl) ?_;refine kQ0 [2,3,5,44] ?_;refine wc (fun c44=>?_) fun c44=>?_
 rw[b9K (x:=u) (y:=v) c44] at hJ;refine kQ1 [4] ?_;refine wT h ?_;exact⟨by rw[e0,hJ];rfl,rfl⟩;rw[b9t (x:=u) (y:=v) c44,Bool.true_and] at hJ;refine kQ0 [2,3,5] ?_;refine kA3 ?_;refine WL.nil (A5 (x.fs.l.length - (k+1)) [(5,.int .i64 (k+1))] (h'':=.pt b3 (.cells (spE y).toArray 44 (0,0))::.pt b2 (.cells (spE x).toArray 44 (0,0))::h) (by omega) ?_ Su Sb ⟨k+1,⟨by omega,hJ⟩,rfl,rfl,rfl⟩);exact Su;replace c31:=dF c31;rw[List.drop_eq_nil_of_le (by omega),List.drop_eq_nil_of_le (by omega)] at hJ;refine kQ0 [2,3] ?_;refine kA4 ?_;refine xf (E2 Et Et) (b3D _ _ _ _ _ _ x.names.l y.names.l _ _ (hx.o.nr.mono v0 Sb) (hy.o.nr.mono v0 Sb)) ?_;refine kA5 ?_;refine A6 (GU.t rfl rfl) (fun hc=>⟨Ef,(E2 (Eg hc) (Eg hc)),a0S x.e y.e _ _ (hx.o.e.t.mono Sb) (hy.o.e.t.mono Sb)⟩) Lb ?_;refine kA6 ?_
 refine A6 (GU.t rfl rfl) (fun hc=>⟨Ef,(E2 (Eg hc) (Eg hc)),a9M x.cs y.cs _ _ _ _ _ _ x.vs.l y.vs.l _ _ (hx.o.v.mono v0 Sb) (hy.o.v.mono v0 Sb)⟩) Lb ?_;refine kA6 ?_;refine A6 (GU.t rfl rfl) (fun hc=>⟨Ef,(E2 (Eg hc) (Eg hc)),a3R x.bl ih y.bl _ _ _ _ _ _ _ _ (hx.o.b.mono v0 Sb) (hy.o.b.mono v0 Sb) (fun z hz=>(hx.b z hz).mono Sb) (fun z hz=>(hy.b z hz).mono Sb)⟩) Lb ?_;refine kQ2 [4] ?_;refine wT h ?_;exact⟨by rw[e0,hJ];rfl,rfl⟩
theorem c4G {m:View} {h:List Res} {p:Pr} (q:POk m h p):∀ g ∈ p.gl,GK m h g:=fun g hg=>⟨q.own.gs g hg,fun _ hx=>q.sub (.g hg hx)⟩
theorem c4y {m:View} {h:List Res} {p:Pr} (q:POk m h p):SK m h p.sp:=⟨q.own.sp,fun _ hx=>q.sub (.s hx)⟩
set_option maxHeartbeats 2000000 in
theorem c0Y (p:Pr):∀ (q:Pr) (h:List Res) (m:View),POk m h p->POk m h q->CT Tryz.prog 34 [prV p,prV q] h m (A4 h (.bool (K2 p q))):=by
 refine Pr.ind (q:=fun p=>∀ (q:Pr) (h:List Res) (m:View),POk m h p->POk m h q->CT Tryz.prog 34 [prV p,prV q] h m (A4 h (.bool (K2 p q)))) (fun p ih q h m hp hq=>?_) p;have v0:=View.le.refl m;have e0:=a9x p q;have x1:=hp.own;have y1:=hq.own;have f1:=x1.pn;have f2:=y1.pn;have m1:=f1.mx;have m2:=f2.mx;have k1:=f1.le;have k2:=f2.le;refine CT.body Tryz.call34 Tryz.func34 rfl Tryz.ntmps34 Lb rfl ?_;refine j0 ?_;refine xX fun b2=>?_
 refine xX fun b3=>?_
 refine kQ1 [2,3] ?_;refine kQ7 [2,3,13] ?_;refine wc (fun c13=>?_) fun c13=>?_
 replace c13:=a1I c13;rw[R3 _ p.pn.l q.pn.l (by omega),Bool.false_and] at e0;refine kQ1 [4] ?_;refine wT h ?_;exact⟨by rw[e0],rfl⟩;replace c13:=a1U c13;refine kQ0 [2,3] ?_;refine kQ1 [2,3,5] ?_;refine B0 [2,3] rfl (fun μ F' h'=>∃ k:Nat,(k<=p.pn.l.length/\eqL (fun a b:Int=>a==b) p.pn.l q.pn.l=eqL (fun a b:Int=>a==b) (p.pn.l.drop k) (q.pn.l.drop k))/\p.pn.l.length - k=μ/\F'=[(5,.int .i64 k)]/\.pt b3 (.cells (prE q).toArray 46 (0,0))::.pt b2 (.cells (prE p).toArray 46 (0,0))::h=h') (p.pn.l.length - 0) [(5,.int .i64 0)] (h0:=.pt b3 (.cells (prE q).toArray 46 (0,0))::.pt b2 (.cells (prE p).toArray 46 (0,0))::h) ?_ Sb ⟨0,⟨by omega,by simp⟩,rfl,rfl,rfl⟩ ?_;exact Su;rintro _ _ _ ⟨k,⟨hk,hJ⟩,rfl,rfl,rfl⟩;refine B2 rfl ?_;refine kQ5 [2,3,5,18] ?_;refine wc (fun c18=>?_) fun c18=>?_
 replace c18:=dT c18;obtain⟨u,hu⟩:=A3 (l:=p.pn.l) (k:=k) (by omega);obtain⟨v,hv⟩:=A3 (l:=q.pn.l) (k:=k) (by omega);rw[P2 _ hu hv] at hJ;refine kQ0 [2,3,5] ?_;refine dS [] (.op 0 (.op 1 (.op 2 (.op 3 (.op 4 (.op 5 (.op 6 (.op 7 (.op 8 (.op 9 .nil)))))))))) [10] D7 ?_;refine a9R ?_;refine SR.nil rfl rfl ?_;refine kQ1 [2,3,5,31] ?_;refine wc (fun c31=>?_) fun c31=>?_
 replace c31:=a1I c31;rw[show(u==v)=false by simpa using c31] at hJ;refine kQ1 [4] ?_;refine wT h ?_;exact⟨by rw[e0,hJ];rfl,rfl⟩;replace c31:=a1U c31;rw[show(u==v)=true by simpa using c31,Bool.true_and] at hJ;refine kQ0 [2,3,5] ?_;refine kA3 ?_;refine WL.nil (A5 (p.pn.l.length - (k+1)) [(5,.int .i64 (k+1))] (h'':=.pt b3 (.cells (prE q).toArray 46 (0,0))::.pt b2 (.cells (prE p).toArray 46 (0,0))::h) (by omega) ?_ Su Sb ⟨k+1,⟨by omega,hJ⟩,rfl,rfl,rfl⟩);exact Su;replace c18:=dF c18;rw[List.drop_eq_nil_of_le (by omega),List.drop_eq_nil_of_le (by omega)] at hJ;refine kQ0 [2,3] ?_;refine kA6 ?_;refine xG (N8 Et Et) ?_;refine kA7 ?_;refine A6 (GU.t rfl rfl) (fun hc=>⟨Ef,(E2 (Eg hc) (Eg hc)),a0S p.rep.base q.rep.base _ _ (x1.rb.t.mono Sb) (y1.rb.t.mono Sb)⟩) Lb ?_;refine kA8 ?_
 refine A6 (GU.t rfl rfl) (fun hc=>⟨Ef,(E2 (Eg hc) (Eg hc)),a0S p.rep.count q.rep.count _ _ (x1.rc.t.mono Sb) (y1.rc.t.mono Sb)⟩) Lb ?_;refine kQ2 [2,3,6] ?_;refine a9R ?_;refine zG (fun hc=>N8 (Eg hc) (Eg hc)) ?_;refine kA9 ?_;refine A6 (GU.t rfl rfl) (fun hc=>⟨Ef,(E2 (Eg hc) (Eg hc)),a0S p.ch q.ch _ _ (x1.ch.t.mono Sb) (y1.ch.t.mono Sb)⟩) Lb ?_;refine kA6 ?_;refine A6 (GU.t rfl rfl) (fun hc=>⟨Ef,(E2 (Eg hc) (Eg hc)),a2z p.tg.l q.tg.l _ _ _ _ _ _ _ _ (x1.tg.rd.mono v0 Sb) (y1.tg.rd.mono v0 Sb) (fun z hz=>(x1.tg.ok z hz).t.mono Sb) (fun z hz=>(y1.tg.ok z hz).t.mono Sb)⟩) Lb ?_;refine kA6 ?_;refine A6 (GU.t rfl rfl) (fun hc=>⟨Ef,(E2 (Eg hc) (Eg hc)),a2z p.ex.l q.ex.l _ _ _ _ _ _ _ _ (x1.ex.rd.mono v0 Sb) (y1.ex.rd.mono v0 Sb) (fun z hz=>(x1.ex.ok z hz).t.mono Sb) (fun z hz=>(y1.ex.ok z hz).t.mono Sb)⟩) Lb ?_;refine kA6 ?_
 refine A6 (GU.t rfl rfl) (fun hc=>⟨Ef,(E2 (Eg hc) (Eg hc)),a8Z p.gl (fun g hg z hz=>ih z (.g hg hz)) q.gl _ _ _ _ _ _ _ _ (x1.g.mono v0 Sb) (y1.g.mono v0 Sb) (fun z hz=>(c4G hp z hz).mono Sb) (fun z hz=>(c4G hq z hz).mono Sb)⟩) Lb ?_;refine kA6 ?_;refine A6 (GU.t rfl rfl) (fun hc=>⟨Ef,(E2 (Eg hc) (Eg hc)),a3R p.ll (fun z hz=>ih z (.l hz)) q.ll _ _ _ _ _ _ _ _ (x1.l.mono v0 Sb) (y1.l.mono v0 Sb) (fun z hz=>(hp.sub (.l hz)).mono Sb) (fun z hz=>(hq.sub (.l hz)).mono Sb)⟩) Lb ?_;refine kA6 ?_;refine A6 (GU.t rfl rfl) (fun hc=>⟨Ef,(E2 (Eg hc) (Eg hc)),b0U p.sp (fun z hz=>ih z (.s hz)) q.sp _ _ ((c4y hp).mono Sb) ((c4y hq).mono Sb)⟩) Lb ?_;refine kQ2 [4] ?_;refine wT h ?_;exact⟨by rw[e0,hJ];rfl,rfl⟩
end
section
open Go.Eng Go.Pc Go.Sx Go
open Go.Xp hiding B C2
open Go.Ty (Ty Vr Tok eqT tyV I9 B3 B5 T9 zeroK N3 D5 encV D9 VOk PrOk)
open Go.Lx (encB C9 textO)
open Go.Ly (Rw I6 C6 eqR b1j b1h b1v)
theorem b7k {m m':View} (g:Glob m) (h:m.le m'):Glob m':=
 ⟨by obtain⟨x,hx⟩:=g.max;exact⟨x,h.cell hx⟩,fun j v e=>h.cell (g.prim j v e),fun j v e=>h.cell (g.sOne j v e),fun j v e=>h.cell (g.sSome j v e),fun j v e=>h.cell (g.sAll j v e)⟩
section
variable {m m':View} {h h':List Res}
theorem c5R (V:Vw m' h' m h) {e:Ex} (q:TOk m' h' e):TOk m h e:=by
 induction q with
 | mk hr _ ih=>exact .mk (V _ _ _ _ _ hr) ih
theorem a3W (V:Vw m' h' m h) {e:Ex} (q:EOk m' h' e):EOk m h e:=⟨c5R V q.t,q.w⟩
theorem b2j (V:Vw m' h' m h) {s:Sli Ex} (q:LOk m' h' s):LOk m h s:=⟨V _ _ _ _ _ q.rd,fun x hx=>a3W V (q.ok x hx)⟩
theorem c5w (V:Vw m' h' m h) {a:Option Addr} {k c:Nat} {l:List Vr} (q:PrOk m' h' a k c l):PrOk m h a k c l:=⟨V _ _ _ _ _ q.rd,fun v hv=>⟨V _ _ _ _ _ (q.ok v hv).rd⟩,q.tag⟩
theorem c4L (V:Vw m' h' m h) {s:Sp} (q:SOk m' h' s):SOk m h s:=⟨q.k,q.ty,V _ _ _ _ _ q.nr,q.nw,a3W V q.e,c5w V q.v,q.vw,V _ _ _ _ _ q.fr,q.fw,V _ _ _ _ _ q.b⟩
theorem c6e (V:Vw m' h' m h) {g:Gu} (q:GOk m' h' g):GOk m h g:=⟨q.k,q.n,a3W V q.cond,a3W V q.ch,b2j V q.tg,b2j V q.vl,a3W V q.time,V _ _ _ _ _ q.b⟩
theorem c6Z (V:Vw m' h' m h) {p:Pr} (q:P1 m' h' p):P1 m h p:=⟨q.k,q.n,a3W V q.ch,b2j V q.tg,b2j V q.ex,q.rn,a3W V q.rb,a3W V q.rc,V _ _ _ _ _ q.g,fun x hx=>c6e V (q.gs x hx),V _ _ _ _ _ q.l,V _ _ _ _ _ q.pn,q.pw,c4L V q.sp⟩
theorem c5y (V:Vw m' h' m h) {p:Pr} (q:POk m' h' p):POk m h p:=by
 induction q with
 | mk o _ ih=>exact .mk (c6Z V o) ih
end
theorem b0o {m:View} (hg:Glob m) (ra:Option Addr) (rc:Nat) (R:List Rw) (h:List Res) (ht:∀ x ∈ R,x.text.length<=140737488355328) :
 CT Tryz.prog 5 [.slice ra R.length rc] (.row (.slice ra R.length rc) 53 3 R.length (fl I6 R)::h) m (fun v _ h'=>∃ x hx bl,v=.tuple #[prV x,.int .i64 ((G1 R).2.1:Nat),.int .i64 (G1 R).2.2]/\stP x=(G1 R).1/\POk m (hx++(bl++h)) x/\Rd m hx ra R.length rc 3 (fl I6 R)/\h'=hx++(bl++h)):=
 (CT.lendRow Tryz.call5 fun m' hle hr=>a6v (b7k hg hle) ra rc R h hr ht).mono (by
  rintro v m2 h2 - ⟨m',hx,h3,⟨x,bl,h1,h4,h5,rfl⟩,rfl,V,hr⟩;exact⟨x,hx,bl,h1,h4,c5y V (h5.mono (List.sublist_append_left _ _)),hr,rfl⟩)
theorem b0m {m:View} (hg:Glob m) (ra:Option Addr) (rc:Nat) (R:List Rw) (h:List Res) (ht:∀ x ∈ R,x.text.length<=140737488355328) :
 CT Tryz.prog 5 [.slice ra R.length rc] (.row (.slice ra R.length rc) 53 3 R.length (fl I6 R)::h) m (fun v _ h'=>∃ x hh,v=.tuple #[prV x,.int .i64 ((G1 R).2.1:Nat),.int .i64 (G1 R).2.2]/\stP x=(G1 R).1/\POk m (hh++h) x/\h'=hh++h):=
 (b0o hg ra rc R h ht).mono (by
  rintro v m2 h2 - ⟨x,hx,bl,h1,h4,h5,-,rfl⟩;exact⟨x,hx++bl,h1,h4,by rw[List.append_assoc];exact h5,by rw[List.append_assoc]⟩)
theorem b8D (s:B):(Lib.splitB ⟨#[47]⟩ 0 (Lib.countB ⟨s.toArray⟩ ⟨#[47]⟩) ⟨s.toArray⟩).map (·.data.toList)=M3 s:=by
 rw[Lib.splitB_data];rfl
theorem b4p {m:View} (hg:Glob m) (s:B) (hs:s.length < 4294967281) (h:List Res):CT Tryz.prog 38 [str s,str [47]] h m
 (fun v _ h'=>∃ b,v=.slice (some ⟨b,0,none⟩) (M3 s).length (M3 s).length/\h'=.pt b (.cells (fl encB (M3 s)).toArray 9 (0,0))::h):=by
 obtain⟨x,hx⟩:=hg.max;refine⟨Tryz.call38,fun w st=>Calls.mono (Tryz.strings_Split ⟨s.toArray⟩ ⟨#[47]⟩ x w hs (st.cell hx) (by decide)) ?_⟩;rintro e w' ⟨rfl,rfl⟩;have h1:=b8D s;have h2:Lib.countB ⟨s.toArray⟩ ⟨#[47]⟩+1=(M3 s).length:=by
  rw[<- h1,List.length_map,Lib.splitB_all ⟨#[47]⟩ (by decide) 0 _ ⟨s.toArray⟩ rfl]
 have h3:(Lib.splitB ⟨#[47]⟩ 0 (Lib.countB ⟨s.toArray⟩ ⟨#[47]⟩) ⟨s.toArray⟩).map Value.string=fl encB (M3 s):=by
  rw[<- h1];generalize Lib.splitB ⟨#[47]⟩ 0 (Lib.countB ⟨s.toArray⟩ ⟨#[47]⟩) ⟨s.toArray⟩=l;induction l with
  | nil=>rfl
  | cons y l ih=>
   rw[List.map_cons,List.map_cons,ih];rfl
 rw[h2,h3];exact⟨_,m,_,rfl,Vl,st.alloc _,w.heap.size,rfl,rfl⟩
theorem b7T (s:B) (h:List Res) (m:View):CT Tryz.prog 39 [str s,str [46]] h m (A4 h (str (Lib.trimLeftB s 46))):=
 CT.ofCalls Tryz.call39 fun w _=>Tryz.strings_TrimLeft_one ⟨s.toArray⟩ 46 (by decide) w
theorem b1f {m:View} (hg:Glob m) (s:B) (hs:s.length < 4294967281) (hl:(M3 s).length<=1000) (hp:∀ x ∈ M3 s,x.length<=100000) (h:List Res) :
 CT Tryz.prog 20 [str s] h m (fun v _ h'=>b4N I6 53 3 h (a0f s) v h'):=by
 refine CT.body Tryz.call20 Tryz.func20 rfl Tryz.ntmps20 Lb rfl ?_;refine kQ1 [0] ?_;refine WL.addNil 53 3 ?_;refine kQ1 [0,3] ?_;refine kA1 ?_;refine xg (E2 Et Ek) (b4p hg s hs _) ?_;rintro _ _ ⟨b8,rfl,rfl⟩;refine kQ2 [3,8,9,10] ?_;refine B0 [8,9] rfl (fun μ F' h'=>∃ a3:Option Addr,∃ c3:Nat,∃ j:Nat,∃ r:List Rw,((j<=(M3 s).length/\r.length=j)/\r=a6l 0 ((M3 s).take j))/\(M3 s).length - j=μ/\F'=[(3,.slice a3 r.length c3),(10,.int .i64 j)]/\.pt b8 (.cells (fl encB (M3 s)).toArray 9 (0,0))::.row (.slice a3 r.length c3) 53 3 r.length (fl I6 r)::h=h') ((M3 s).length - 0) [(3,.slice none ([]).length 0),(10,.int .i64 0)] (h0:=.pt b8 (.cells (fl encB (M3 s)).toArray 9 (0,0))::.row (.slice none ([]).length 0) 53 3 ([]).length (fl I6 ([]))::h) ?_ Sb ⟨none,0,0,[],⟨⟨by omega,rfl⟩,rfl⟩,rfl,rfl,rfl⟩ ?_;exact Su;rintro _ _ _ ⟨a3,c3,j,r,⟨⟨hj,hr⟩,hJ⟩,rfl,rfl,rfl⟩;refine B2 rfl ?_
 refine kQ1 [3,8,9,10,11] ?_;refine wc (fun c11=>?_) fun c11=>?_
 replace c11:=dT c11;obtain⟨x,hx⟩:=A3 (l:=M3 s) (k:=j) (by omega);have hxl:=hp x (List.mem_of_getElem? hx);have htl:(Lib.trimLeftB x 46).length<=x.length:=(List.dropWhile_sublist _).length_le;have htk:a6l 0 ((M3 s).take (j+1))=a6l 0 ((M3 s).take j)++[a6d j x]:=by rw[a9u hx,Nat.zero_add]
 have hln:(r++[a6d j x]).length=r.length+1:=List.length_append;have hrd:Rd m (.pt b8 (.cells (fl encB (M3 s)).toArray 9 (0,0))::.row (.slice a3 r.length c3) 53 3 r.length (fl I6 r)::h) (some ⟨b8,0,none⟩) (M3 s).length (M3 s).length 1 (fl encB (M3 s)):=Rd.ofPt (by rw[a5B C9]) (by omega) Me;refine kQ0 [3,8,9,10] ?_;refine kQ5 [3,4,5,8,9,10] ?_;refine kA1 ?_;refine xf (E2 Et Ek) (b7T x _ _) ?_;refine kQ1 [3,4,5,6,8,9,10] ?_;refine kA4 ?_;refine xG (I0 uu9 Et) ?_;refine kA1 ?_;refine xG (I0 uu9 Et) ?_;refine xG (Q5 Et Et (by omega)) ?_;refine kA2 ?_;refine xY S0 Eb fun b27=>?_
 refine xD S0 (Ev.tmp rfl) (Ev.tmp rfl) (show r.length+1=(r++[a6d j x]).length by simp) (F5 (enc:=I6) _ (a6d j x)) fun a28 c28=>?_
 refine kQ1 [3,8,9,10] ?_;refine kA2 ?_;refine WL.nil (A5 ((M3 s).length - (j+1)) [(3,.slice a28 (r++[a6d j x]).length c28),(10,.int .i64 (j+1))] (h'':=.pt b8 (.cells (fl encB (M3 s)).toArray 9 (0,0))::.row (.slice a28 (r++[a6d j x]).length c28) 53 3 (r++[a6d j x]).length (fl I6 (r++[a6d j x]))::h) (by omega) ?_ Su Sb ⟨a28,c28,j+1,r++[a6d j x],⟨⟨by omega,by omega⟩,by rw[htk,hJ]⟩,rfl,rfl,rfl⟩);exact Su;replace c11:=dF c11;rw[List.take_of_length_le (by omega)] at hJ;subst hJ;refine kQ0 [3] ?_;refine kQ2 [2] ?_;refine wT (.row (.slice a3 (a0f s).length c3) 53 3 (a0f s).length (fl I6 (a0f s))::h) ?_;exact⟨_,_,_,rfl,rfl,rfl⟩
theorem b5m (s1 s2:Option Addr) (n1 c1 n2 c2:Nat) (xs ys:List _) (h:List Res) (m:View) (h1:Rd m h s1 n1 c1 3 (fl I6 xs)) (h2:Rd m h s2 n2 c2 3 (fl I6 ys)) :
 CT Tryz.prog 33 [.slice s1 n1 c1,.slice s2 n2 c2] h m (A4 h (.bool (eqL eqR xs ys))):=by
 have l1:=h1.lenF C6 (by decide);have l2:=h2.lenF C6 (by decide);have m1:=h1.mx;have m2:=h2.mx;have k1:=h1.le;have k2:=h2.le;refine CT.body Tryz.call33 Tryz.func33 rfl Tryz.ntmps33 Lb rfl ?_;refine kQ1 [0,1] ?_;refine kQ5 [0,1,10] ?_;refine wc (fun c10=>?_) fun c10=>?_
 replace c10:=a1I c10;refine kQ1 [4] ?_;refine wT h ?_;exact⟨by rw[R3 _ _ _ (by omega)],rfl⟩;replace c10:=a1U c10;refine kQ0 [0,1] ?_;refine kQ3 [0,1,12,13] ?_;refine B0 [0,1,12] rfl (fun μ F' h'=>∃ k:Nat,(k<=n1/\eqL eqR xs ys=eqL eqR (xs.drop k) (ys.drop k))/\n1 - k=μ/\F'=[(13,.int .i64 k)]/\h=h') (n1 - 0) [(13,.int .i64 0)] (h0:=h) ?_ Sb ⟨0,⟨by omega,by simp⟩,rfl,rfl,rfl⟩ ?_;exact Su;rintro _ _ _ ⟨k,⟨hk,hJ⟩,rfl,rfl,rfl⟩;refine B2 rfl ?_;refine kQ1 [0,1,12,13,14] ?_;refine wc (fun c14=>?_) fun c14=>?_
 replace c14:=dT c14;obtain⟨x,hx⟩:=A3 (l:=xs) (k:=k) (by omega);obtain⟨y,hy⟩:=A3 (l:=ys) (k:=k) (by omega);rw[P2 _ hx hy] at hJ;refine kQ0 [0,1,12,13] ?_;refine kQ2 [0,1,5,12,13] ?_;refine dS [] (.op 0 (.op 1 (.op 2 (.op 3 (.op 4 (.op 5 (.op 6 (.op 7 .nil)))))))) [8] D7 ?_;refine kA8 ?_;refine SR.nil rfl rfl ?_;refine xG (b2b a9y (by kernel_rfl) (by kernel_rfl) Et Et rfl) ?_;refine kQ0 [0,1,12,13,24] ?_;refine wc (fun c24=>?_) fun c24=>?_
 refine kQ1 [4] ?_;refine wT h ?_;exact⟨by rw[hJ,b1h c24];rfl,rfl⟩;rw[b1j c24,Bool.true_and] at hJ;refine kQ0 [0,1,12,13] ?_;refine kA2 ?_;refine WL.nil (A5 (n1 - (k+1)) [(13,.int .i64 (k+1))] (h'':=h) (by omega) ?_ Su Sb ⟨k+1,⟨by omega,hJ⟩,rfl,rfl,rfl⟩);exact Su;replace c14:=dF c14;refine kQ0 [] ?_;refine kQ1 [4] ?_;refine wT h ?_;exact⟨by rw[hJ,List.drop_eq_nil_of_le (by omega),List.drop_eq_nil_of_le (by omega)];rfl,rfl⟩
end
section
open Go.Eng Go.Pc Go.Sx Go
open Go.Xp hiding B C2
open Go.Ty (Ty Vr Tok eqT tyV I9 B3 B5 T9 zeroK N3 D5 encV D9 VOk PrOk)
open Go.Lx (encB C9 textO)
open Go.Ly (Rw I6 C6 eqR b1j b1h b1v)
structure TxtOk (s:B):Prop where
 n:s.length < 4294967281
 l:(M3 s).length<=1000
 p:∀ x ∈ M3 s,x.length<=100000
 t:∀ x ∈ a0f s,x.text.length<=140737488355328
def a5u (s:B):Bool:=decide (s.length < 1000)&&decide ((M3 s).length<=1000)&&(M3 s).all (fun x=>decide (x.length<=1000))&&(a0f s).all (fun x=>decide (x.text.length<=1000))
theorem a0D {s:B} (h:a5u s=true):TxtOk s:=by
 unfold a5u at h;simp only[Bool.and_eq_true,decide_eq_true_eq,List.all_eq_true] at h;obtain⟨⟨⟨h1,h2⟩,h3⟩,h4⟩:=h;exact⟨by omega,h2,fun x hx=>by have:=h3 x hx;omega,fun x hx=>by have:=h4 x hx;omega⟩
theorem a2N {m:View} (hg:Glob m) (hp:Pow m) (s:B) (k:Int) (hT:TxtOk s) (hM:a3p s k=true) (h:List Res) :
 CT Tryz.prog 14 [str s,.int .u8 k] h m (A4 h (.bool true)):=by
 unfold a3p at hM;simp only[Bool.and_eq_true,beq_iff_eq] at hM;obtain⟨⟨⟨⟨hM1,hM2⟩,hM3⟩,hM4⟩,hM5⟩:=hM;refine CT.body Tryz.call14 Tryz.func14 rfl Tryz.ntmps14 Lb rfl ?_;refine kQ1 [0,1] ?_;refine kA1 ?_;refine xg (E1 Et) (b1f hg s hT.n hT.l hT.p _) ?_;rintro _ _ ⟨a12,c12,_,rfl,rfl,rfl⟩;refine xg (E1 Et) (b0m hg _ _ (a0f s) _ hT.t) ?_;rintro _ _ ⟨x,hh,rfl,hst,hok,rfl⟩;rw[hM2,hM3];have hxk:x.k=k:=by rw[<- (a8N x).1,hst];exact hM1
 have hpx:W5 x=W5 (G1 (a0f s)).1:=by rw[<- hst,c0n]
 refine kA4 ?_;refine xW fun b5=>?_
 refine kQ3 [0,1,5,6,7] ?_;refine kA1 ?_;refine xg (E1 Et) (c0m hg hp x _ (hok.mono Sb)) ?_;rintro _ _ ⟨a19,c19,bl2,rfl,hrd,rfl,-⟩;rw[hpx,hM4];rw[hpx] at hrd;refine WL.perm List.perm_middle ?_;refine kQ5 [0,1,5,6,7,8,9] ?_;refine kA4 ?_;refine wV (b':=true) (by simpa using hxk) ?_;refine kA1 ?_;refine zU ?_;refine kA1 ?_;refine zU ?_;refine kA3 ?_;refine zU ?_;refine kA1 ?_;refine zU ?_;refine kA3 ?_;refine zU ?_;refine kA1 ?_;refine zU ?_;refine kA3 ?_;refine zU ?_;refine kA1 ?_;refine zU ?_;refine kA1 ?_;refine zU ?_;refine xg (E1 Et) (b1f hg s hT.n hT.l hT.p _) ?_;rintro _ _ ⟨a41,c41,_,rfl,rfl,rfl⟩;refine kR a41 fun p41 q41 r41=>?_
 refine zU ?_;refine xf (E2 Et Et) ((b5m _ _ _ _ _ _ (W5 (G1 (a0f s)).1).1 (a0f s) _ _ (hrd.mono Vl (((List.sublist_append_left _ _).cons _).cons _)) (iR r41 p41 q41)).val (congrArg Value.bool hM5)) ?_;refine kQ2 [4] ?_;refine wT h ?_;exact⟨rfl,rfl⟩
end
section
open Go.Eng Go.Pc Go
open Go.Xp hiding B C2
open Go.Ty (Ty Vr eqT tyV I9 PrOk VOk encV D9 N3 D5 eqI a2L a2I)
open Go.Lx (encB C9)
theorem c5b {P:Program} {n:Cx} {F:Fm} {h:List Res} {m:View} {ty:TypeId} {pos:String} {after:Array Edge} {dst:Option Tmp} {g:Option (Nat × Bool)} {x y:Operand} {i j:Int} {t t':TypeId} (ex:Ev n F x (.int .i64 i)) (ey:Ev n F y (.int .i64 j)) (_:(0:Int)<=1) :
 PO P ⟨dst,.binOp .add t x y t',ty,pos,after,g⟩ n F h m (.int .i64 (IntKind.i64.wrap (i+j))):=P4 ex ey (by simp[iop])
abbrev W64 (v:Int):Int:=IntKind.i64.wrap v
theorem c6u (a b:Int):W64 (W64 a+W64 b)=W64 (a+b):=by
 unfold W64;rw[IntKind.wrap_i64,IntKind.wrap_i64,IntKind.wrap_i64,IntKind.wrap_i64];omega
theorem a3n {x:Pr}:∀ {l:List Pr} {j:Nat},l[j]?=some x->J6 (l.take (j+1))=J6 (l.take j)+P9 x
 | [],_,h=>by cases h
 | y::l,0,h=>by
  cases h;show P9 _+J6 (l.take 0)=J6 []+_;rw[List.take_zero];unfold J6;omega
 | y::l,j+1,h=>by
  have ih:=a3n (l:=l) (j:=j) (by simpa using h);show P9 y+J6 (l.take (j+1))=(P9 y+J6 (l.take j))+_;omega
theorem a8e {g:Gu}:∀ {l:List Gu} {j:Nat},l[j]?=some g->V8 (l.take (j+1))=V8 (l.take j)+J6 g.bl
 | [],_,h=>by cases h
 | y::l,0,h=>by
  cases h;show b3A _+V8 (l.take 0)=V8 []+_;rw[List.take_zero,b2c];unfold V8;omega
 | y::l,j+1,h=>by
  have ih:=a8e (l:=l) (j:=j) (by simpa using h);show b3A y+V8 (l.take (j+1))=(b3A y+V8 (l.take j))+_;omega
theorem b5v {v:Int} {a b:Nat} {c:Int} {x:Pr} (hv:v=W64 (c+(a:Int))) (hb:b=a+P9 x):W64 (v+W64 (P9 x))=W64 (c+(b:Int)):=by
 subst hv hb;rw[c6u];congr 1
 omega
set_option maxHeartbeats 4000000 in
theorem c2w (p:Pr):∀ (h:List Res) (m:View),POk m h p->CT Tryz.prog 17 [prV p] h m (A4 h (.int .i64 (W64 (P9 p)))):=by
 refine Pr.ind (q:=fun p=>∀ (h:List Res) (m:View),POk m h p->CT Tryz.prog 17 [prV p] h m (A4 h (.int .i64 (W64 (P9 p))))) (fun p ih h m hP=>?_) p;have hO:=hP.own;have hrl:=hO.l;have hrg:=hO.g;have hrb:=hO.sp.b;have hlx:=Nat.le_trans hrl.le hrl.mx;have hgx:=Nat.le_trans hrg.le hrg.mx;have hbx:=Nat.le_trans hrb.le hrb.mx;have hce:=a6A p;rw[a5Z] at hce;refine CT.body Tryz.call17 Tryz.func17 rfl Tryz.ntmps17 Lb rfl ?_;refine j0 ?_;refine xX fun b1=>?_
 refine kQ1 [1] ?_;refine kQ1 [1,3] ?_;refine kQ4 [1,3,13,14,15] ?_;refine B0 [1,13,14] rfl (fun μ F' h'=>∃ v:Int,∃ j:Nat,(j<=p.ll.length/\v=W64 (1+(J6 (p.ll.take j):Nat)))/\p.ll.length - j=μ/\F'=[(3,.int .i64 v),(15,.int .i64 j)]/\.pt b1 (.cells (prE p).toArray 46 (0,0))::h=h') (p.ll.length - 0) [(3,.int .i64 1),(15,.int .i64 0)] (h0:=.pt b1 (.cells (prE p).toArray 46 (0,0))::h) ?_ Sb ⟨1,0,⟨Nat.zero_le _,rfl⟩,rfl,rfl,rfl⟩ ?_;exact Su;rintro _ _ _ ⟨v,j,⟨hj,hv⟩,rfl,rfl,rfl⟩;refine B2 rfl ?_;refine kQ1 [1,3,13,14,15,16] ?_;refine wc (fun c16=>?_) fun c16=>?_
 replace c16:=dT c16;obtain⟨x,hx⟩:=A3 (l:=p.ll) (k:=j) (by omega);have hin:In x p:=.l (List.mem_of_getElem? hx);refine kQ0 [1,3,13,14,15] ?_;refine kA2 ?_;refine xW fun b5=>?_
 refine kQ1 [1,3,5,13,14,15] ?_;refine kA2 ?_;refine xf (E1 Et) (ih x hin _ m ((hP.sub hin).mono Sb)) ?_;refine xG (c5b Et Et (by omega)) ?_;refine kQ1 [1,3,13,14,15] ?_;refine kA2 ?_;refine WL.nil (A5 (p.ll.length - (j+1)) [(3,.int .i64 (W64 (v+W64 (P9 x)))),(15,.int .i64 (j+1))] (h'':=.pt b1 (.cells (prE p).toArray 46 (0,0))::h) (by omega) ?_ Su Sb ⟨W64 (v+W64 (P9 x)),j+1,⟨by omega,b5v hv (a3n (l:=p.ll) hx)⟩,rfl,rfl,rfl⟩);exact Su;replace c16:=dF c16;rw[List.take_of_length_le (by omega)] at hv;refine kQ0 [1,3] ?_;refine kQ5 [1,3,26,27,28] ?_
 refine B0 [1,26,27] rfl (fun μ F' h'=>∃ v:Int,∃ j:Nat,(j<=p.sp.bl.length/\v=W64 ((1+(J6 p.ll:Int))+(J6 (p.sp.bl.take j):Nat)))/\p.sp.bl.length - j=μ/\F'=[(3,.int .i64 v),(28,.int .i64 j)]/\.pt b1 (.cells (prE p).toArray 46 (0,0))::h=h') (p.sp.bl.length - 0) [(3,.int .i64 v),(28,.int .i64 0)] (h0:=.pt b1 (.cells (prE p).toArray 46 (0,0))::h) ?_ Sb ⟨v,0,⟨Nat.zero_le _,by rw[hv,List.take_zero];congr 1⟩,rfl,rfl,rfl⟩ ?_;exact Su;rintro _ _ _ ⟨v,j,⟨hj,hv⟩,rfl,rfl,rfl⟩;refine B2 rfl ?_;refine kQ1 [1,3,26,27,28,29] ?_;refine wc (fun c29=>?_) fun c29=>?_
 replace c29:=dT c29;obtain⟨x,hx⟩:=A3 (l:=p.sp.bl) (k:=j) (by omega);have hin:In x p:=.s (List.mem_of_getElem? hx);refine kQ0 [1,3,26,27,28] ?_;refine kA2 ?_;refine xW fun b7=>?_
 refine kQ1 [1,3,7,26,27,28] ?_;refine kA2 ?_;refine xf (E1 Et) (ih x hin _ m ((hP.sub hin).mono Sb)) ?_;refine xG (c5b Et Et (by omega)) ?_;refine kQ1 [1,3,26,27,28] ?_;refine kA2 ?_;refine WL.nil (A5 (p.sp.bl.length - (j+1)) [(3,.int .i64 (W64 (v+W64 (P9 x)))),(28,.int .i64 (j+1))] (h'':=.pt b1 (.cells (prE p).toArray 46 (0,0))::h) (by omega) ?_ Su Sb ⟨W64 (v+W64 (P9 x)),j+1,⟨by omega,b5v hv (a3n (l:=p.sp.bl) hx)⟩,rfl,rfl,rfl⟩);exact Su;replace c29:=dF c29;rw[List.take_of_length_le (by omega)] at hv;refine kQ0 [1,3] ?_;refine kQ4 [3,38,39,40] ?_
 refine B0 [38,39] rfl (fun μ F' h'=>∃ v:Int,∃ j:Nat,(j<=p.gl.length/\v=W64 (((1+(J6 p.ll:Int))+(J6 p.sp.bl:Nat))+(V8 (p.gl.take j):Nat)))/\p.gl.length - j=μ/\F'=[(3,.int .i64 v),(40,.int .i64 j)]/\.pt b1 (.cells (prE p).toArray 46 (0,0))::h=h') (p.gl.length - 0) [(3,.int .i64 v),(40,.int .i64 0)] (h0:=.pt b1 (.cells (prE p).toArray 46 (0,0))::h) ?_ Sb ⟨v,0,⟨Nat.zero_le _,by rw[hv,List.take_zero];congr 1⟩,rfl,rfl,rfl⟩ ?_;exact Su;rintro _ _ _ ⟨v,j,⟨hj,hv⟩,rfl,rfl,rfl⟩;refine B2 rfl ?_;refine kQ1 [3,38,39,40,41] ?_;refine wc (fun c41=>?_) fun c41=>?_
 replace c41:=dT c41;obtain⟨g,hg1⟩:=A3 (l:=p.gl) (k:=j) (by omega);have hgm:=List.mem_of_getElem? hg1;have hgb:=(hO.gs g hgm).b;have hgbx:=Nat.le_trans hgb.le hgb.mx;refine kQ0 [3,38,39,40] ?_;refine kA2 ?_;refine xW fun b9=>?_
 refine kQ1 [3,9,38,39,40] ?_;refine kQ4 [3,38,39,40,45,46,47] ?_;refine B0 [38,39,40,45,46] rfl (fun μ F' h'=>∃ w:Int,∃ i:Nat,(i<=g.bl.length/\w=W64 ((((1+(J6 p.ll:Int))+(J6 p.sp.bl:Nat))+(V8 (p.gl.take j):Nat))+(J6 (g.bl.take i):Nat)))/\g.bl.length - i=μ/\F'=[(3,.int .i64 w),(47,.int .i64 i)]/\.pt b1 (.cells (prE p).toArray 46 (0,0))::h=h') (g.bl.length - 0) [(3,.int .i64 v),(47,.int .i64 0)] (h0:=.pt b1 (.cells (prE p).toArray 46 (0,0))::h) ?_ Sb ⟨v,0,⟨Nat.zero_le _,by rw[hv,List.take_zero];congr 1⟩,rfl,rfl,rfl⟩ ?_;exact Su;rintro _ _ _ ⟨w,i,⟨hi,hw⟩,rfl,rfl,rfl⟩;refine B2 rfl ?_;refine kQ1 [3,38,39,40,45,46,47,48] ?_;refine wc (fun c48=>?_) fun c48=>?_
 replace c48:=dT c48;obtain⟨x,hx⟩:=A3 (l:=g.bl) (k:=i) (by omega);have hin:In x p:=.g hgm (List.mem_of_getElem? hx);refine kQ0 [3,38,39,40,45,46,47] ?_;refine kA2 ?_;refine xW fun b11=>?_
 refine kQ1 [3,11,38,39,40,45,46,47] ?_;refine kA2 ?_;refine xf (E1 Et) (ih x hin _ m ((hP.sub hin).mono Sb)) ?_;refine xG (c5b Et Et (by omega)) ?_;refine kQ1 [3,38,39,40,45,46,47] ?_;refine kA2 ?_;refine WL.nil (A5 (g.bl.length - (i+1)) [(3,.int .i64 (W64 (w+W64 (P9 x)))),(47,.int .i64 (i+1))] (h'':=.pt b1 (.cells (prE p).toArray 46 (0,0))::h) (by omega) ?_ Su Sb ⟨W64 (w+W64 (P9 x)),i+1,⟨by omega,b5v hw (a3n (l:=g.bl) hx)⟩,rfl,rfl,rfl⟩);exact Su;replace c48:=dF c48;rw[List.take_of_length_le (l:=g.bl) (by omega)] at hw;refine kQ0 [3,38,39,40] ?_;refine kA2 ?_;refine WL.nil (A5 (p.gl.length - (j+1)) [(3,.int .i64 w),(40,.int .i64 (j+1))] (h'':=.pt b1 (.cells (prE p).toArray 46 (0,0))::h) (by omega) ?_ Su Sb ⟨w,j+1,⟨by omega,by rw[hw,a8e hg1];congr 1;omega⟩,rfl,rfl,rfl⟩);exact Su;replace c41:=dF c41;rw[List.take_of_length_le (by omega)] at hv;refine kQ0 [3] ?_;refine kQ2 [2] ?_
 refine wT h ?_;exact⟨by rw[hv,hce];congr 2;omega,rfl⟩
end
section
open Go.Eng Go.Pc Go
open Go.Xp hiding B C2
open Go.Ty (Ty Vr eqT tyV I9 PrOk VOk encV D9 N3 D5 eqI a2L a2I)
open Go.Lx (encB C9)
theorem b5U (m:View) (h:List Res):EOk m h A2:=⟨.mk (Rd.nilF exE 6 m h) (fun _ hx=>(List.not_mem_nil hx).elim),.mk (by decide) (by decide) (by decide) (by decide) (by decide) fun _ hx=>(List.not_mem_nil hx).elim⟩
theorem c4p (m:View) (h:List Res):LOk m h B9:=⟨Rd.nilF exE 6 m h,fun _ hx=>(List.not_mem_nil hx).elim⟩
theorem c71 (m:View) (h:List Res):PrOk m h none 0 0 []:=⟨Rd.nilF encV 2 m h,fun _ hx=>(List.not_mem_nil hx).elim,fun _ hx=>(List.not_mem_nil hx).elim⟩
theorem c7u:TyW Go.Ty.zeroT:=⟨by decide,by decide,by decide,by decide⟩
structure SpF (m:View) (h:List Res) (ty:Ty) (e:Ex) (vs:Sli Vr) (fs:Sli Fo):Prop where
 t:TyW ty
 e:EOk m h e
 v:PrOk m h vs.a vs.l.length vs.c vs.l
 vw:∀ x ∈ vs.l,x.items.length=x.n
 f:Rd m h fs.a fs.l.length fs.c 6 (fl foE fs.l)
 fw:∀ x ∈ fs.l,FoW x
theorem c7k {m:View} {h:List Res} {k:Int} {ty:Ty} {nm:Sli B} {e:Ex} {cs:Bool} {vs:Sli Vr} {fs:Sli Fo} {ba:Option Addr} {bc:Nat} {bl:List Pr} (hk:0<=k/\k<=255) (q:SpF m h ty e vs fs) (hn:Rd m h nm.a nm.l.length nm.c 1 (fl encB nm.l)) (hw:∀ x ∈ nm.l,x.length<=Big)
 (hb:Rd m h ba bl.length bc 42 (fl prE bl)) (hp:∀ x ∈ bl,POk m h x):SK m h (.mk k ty nm e cs vs fs ba bc bl):=⟨⟨hk,q.t,hn,hw,q.e,q.v,q.vw,q.f,q.fw,hb⟩,hp⟩
theorem b5Y {α:Type} {p:α->Prop}:∀ x ∈ (B9:Sli α).l,p x:=fun _ hx=>(List.not_mem_nil hx).elim
theorem c7I (m:View) (h:List Res):SK m h D4:=c7k (by decide) ⟨c7u,b5U m h,c71 m h,b5Y,Rd.nilF foE 6 m h,b5Y⟩ (Rd.nilF encB 1 m h) b5Y (Rd.nilF prE 42 m h) (fun _ hx=>(List.not_mem_nil hx).elim)
end
section
open Go.Eng Go.Pc Go
open Go.Xp hiding B C2
open Go.Ty (Ty Vr eqT tyV I9 PrOk VOk encV D9 N3 D5 eqI a2L a2I)
open Go.Lx (encB C9)
theorem c2O {m:View} {h:List Res} {nm:B} {ch:Ex} {tg ex:Sli Ex} {pn:Sli Int} {sp:Sp} (hn:nm.length<=Big) (hc:EOk m h ch) (ht:LOk m h tg) (he:LOk m h ex) (hpn:Rd m h pn.a pn.l.length pn.c 1 (fl a4r pn.l)) (hpw:∀ x ∈ pn.l,-9223372036854775808<=x/\x<=9223372036854775807) (hs:SK m h sp) :
 POk m h (c7P nm ch tg ex pn sp):=
 .mk ⟨by show 0<=(0:Int)/\(0:Int)<=255;decide,hn,hc,ht,he,Nat.zero_le _,b5U m h,b5U m h,Rd.nilF guE 23 m h,fun _ hx=>(List.not_mem_nil hx).elim,Rd.nilF prE 42 m h,hpn,hpw,hs.o⟩ fun x hx=>by cases hx with
  | l q=>exact(List.not_mem_nil q).elim
  | s q=>exact hs.b x q
  | g q _=>exact(List.not_mem_nil q).elim
theorem c6h (m:View) (h:List Res):POk m h b2f:=c2O (by decide) (b5U m h) (c4p m h) (c4p m h) (Rd.nilF a4r 1 m h) b5Y (c7I m h)
end
section
open Go.Eng Go.Pc Go.Sx Go
open Go.Xp hiding B C2
open Go.Ty (Ty Vr Tok eqT tyV I9 B3 B5 T9 zeroK N3 D5 encV D9 VOk PrOk)
open Go.Lx (encB C9 textO)
open Go.Ly (Rw I6 C6 eqR b1j b1h b1v)
theorem pt0:a5u [120,44,32,121,32,58,61,32,49,44,32,118,91,105,93]=true:=by decide +kernel
theorem pm0:a3p [120,44,32,121,32,58,61,32,49,44,32,118,91,105,93] 3=true:=by decide +kernel
theorem pt1:a5u [73,78,84,32,120,58,47,83,69,81,32,105,32,61,32,48,32,70,79,82,32,52,47,46,99,32,33,32,120]=true:=by decide +kernel
theorem pm1:a3p [73,78,84,32,120,58,47,83,69,81,32,105,32,61,32,48,32,70,79,82,32,52,47,46,99,32,33,32,120] 18=true:=by decide +kernel
theorem pt2:a5u [65,76,84,47,46,110,32,62,32,48,32,38,32,99,32,63,32,120,47,46,46,83,75,73,80,47,46,116,32,63,32,65,70,84,69,82,32,110,47,46,46,83,84,79,80]=true:=by decide +kernel
theorem pm2:a3p [65,76,84,47,46,110,32,62,32,48,32,38,32,99,32,63,32,120,47,46,46,83,75,73,80,47,46,116,32,63,32,65,70,84,69,82,32,110,47,46,46,83,84,79,80] 12=true:=by decide +kernel
theorem pt3:a5u [80,82,79,84,79,67,79,76,32,112,47,46,67,65,83,69,47,46,46,112,117,116,59,32,73,78,84,47,46,46,101,110,100,47,58,47,83,75,73,80]=true:=by decide +kernel
theorem pm3:a3p [80,82,79,84,79,67,79,76,32,112,47,46,67,65,83,69,47,46,46,112,117,116,59,32,73,78,84,47,46,46,101,110,100,47,58,47,83,75,73,80] 18=true:=by decide +kernel
theorem pt4:a5u [87,72,73,76,69,32,84,82,85,69,47,46,83,75,73,80]=true:=by decide +kernel
theorem pm4:a3p [87,72,73,76,69,32,84,82,85,69,47,46,83,75,73,80] 16=true:=by decide +kernel
theorem ft0:a5u [83,69,81,47,46,120,32,58,61,32,49,47,46,46,83,75,73,80]=true:=by decide +kernel
theorem fm0:a2J [83,69,81,47,46,120,32,58,61,32,49,47,46,46,83,75,73,80] 2 110=true:=by decide +kernel
theorem ft1:a5u [83,69,81,32,105,32,61,32,48,32,70,79,82,32,51,47,46,83,75,73,80,47,46,83,75,73,80]=true:=by decide +kernel
theorem fm1:a2J [83,69,81,32,105,32,61,32,48,32,70,79,82,32,51,47,46,83,75,73,80,47,46,83,75,73,80] 2 110=true:=by decide +kernel
theorem ft2:a5u [83,75,73,80,47,83,75,73,80]=true:=by decide +kernel
theorem fm2:a2J [83,75,73,80,47,83,75,73,80] 1 110=true:=by decide +kernel
theorem ft3:a5u [40,120,41,32,58,61,32,49]=true:=by decide +kernel
theorem fm3:a2J [40,120,41,32,58,61,32,49] 0 110=true:=by decide +kernel
theorem ft4:a5u [120,32,58,61,32,49,32,43,32,50,32,43,32,51]=true:=by decide +kernel
theorem fm4:a2J [120,32,58,61,32,49,32,43,32,50,32,43,32,51] 0 110=true:=by decide +kernel
theorem ft5:a5u [83,69,81,47,46,120,32,58,61,32,36]=true:=by decide +kernel
theorem fm5:a2J [83,69,81,47,46,120,32,58,61,32,36] 1 80=true:=by decide +kernel
theorem ft6:a5u [73,78,84,32,120,58]=true:=by decide +kernel
theorem fm6:a2J [73,78,84,32,120,58] 1 110=true:=by decide +kernel
theorem ft7:a5u [80,82,73,32,80,65,82,47,46,83,75,73,80]=true:=by decide +kernel
theorem fm7:a2J [80,82,73,32,80,65,82,47,46,83,75,73,80] 2 110=true:=by decide +kernel
theorem a1e {m:View} (hg:Glob m) (s:B) (n e:Int) (hT:TxtOk s) (hM:a2J s n e=true) (h:List Res) :
 CT Tryz.prog 15 [str s,.int .i64 n,.int .i64 e] h m (A4 h (.bool true)):=by
 unfold a2J at hM;simp only[Bool.and_eq_true,beq_iff_eq] at hM;obtain⟨⟨hM1,hM2⟩,hM3⟩:=hM;refine CT.body Tryz.call15 Tryz.func15 rfl Tryz.ntmps15 Lb rfl ?_;refine kQ1 [0,1,2] ?_;refine kA1 ?_;refine xg (E1 Et) (b1f hg s hT.n hT.l hT.p _) ?_;rintro _ _ ⟨a12,c12,_,rfl,rfl,rfl⟩;refine xg (E1 Et) (b0m hg _ _ (a0f s) _ hT.t) ?_;rintro _ _ ⟨x,hh,rfl,hst,hok,rfl⟩;rw[hM2,hM3];have hsx:K2 x b2f=true:=by rw[<- b6r,hst];exact hM1
 refine kA4 ?_;refine xW fun b7=>?_
 refine kQ3 [1,2,7,8,9] ?_;refine kA2 ?_;refine xf (E2 Et Et) ((c0Y x b2f _ _ (hok.mono Sb) (c6h m _)).val (congrArg Value.bool hsx)) ?_;refine kA1 ?_;refine zU ?_;refine kA1 ?_;refine zU ?_;refine kA1 ?_;refine zU ?_;refine kA1 ?_;refine wV (b':=true) (by simp) ?_;refine kA2 ?_;refine zU ?_;refine kA1 ?_;refine zU ?_;refine kA1 ?_;refine zU ?_;refine kA1 ?_;refine wV (b':=true) (by simp) ?_;refine kQ2 [6] ?_;refine wT h ?_;exact⟨rfl,rfl⟩
def skP:Pr:=.mk 1 [] A2 B9 B9 b0W none 0 [] none 0 [] B9 D4
def unP (k:Int) (b:Nat):Pr:=.mk k [] A2 B9 B9 b0W none 0 [] (some ⟨b,0,none⟩) 1 [skP] B9 D4
theorem c4E (m:View) (h:List Res):POk m h skP:=b8F m h (k:=1) (by decide)
theorem c4n {m:View} {h:List Res} {k:Int} {b:Nat} (hk:0<=k/\k<=255) (hb:Res.pt b (.cells (prE skP).toArray 46 (0,0)) ∈ h):POk m h (unP k b):=
 a5e hk (Nat.zero_le _) (F1 _ _) (F9 _ _) (F9 _ _) (X4 _ _) (a0J _ _) ⟨Rd.ofPt rfl (show 1<=9223372036854775807 by decide) hb,fun x hx=>by rw[List.mem_singleton] at hx;subst hx;exact c4E m h⟩ (a05 _ _) (T0 _ _)
theorem c5D (b:Nat):mayP (unP 10 b)=false:=by kernel_rfl
theorem c5x:mayP skP=true:=by kernel_rfl
theorem c6d (b:Nat):W64 (P9 (unP 16 b))=2:=by kernel_rfl
theorem c7H:(G1 []).2=(0,110):=by kernel_rfl
set_option maxHeartbeats 2000000 in
theorem b2Q {m:View} (hg:Glob m) (hp:Pow m) (h:List Res):CT Tryz.prog 6 [] h m (A4 h (.bool true)):=by
 refine CT.body Tryz.call6 Tryz.func6 rfl Tryz.ntmps6 Lb rfl ?_;refine kQ1 [] ?_;refine xf (E2 Ek Ek) (a2N hg hp _ _ (a0D pt0) pm0 _) ?_;refine kA1 ?_;refine zU ?_;refine xf (E2 Ek Ek) (a2N hg hp _ _ (a0D pt1) pm1 _) ?_;refine kA2 ?_;refine zU ?_;refine xf (E2 Ek Ek) (a2N hg hp _ _ (a0D pt2) pm2 _) ?_;refine kA2 ?_;refine zU ?_;refine xf (E2 Ek Ek) (a2N hg hp _ _ (a0D pt3) pm3 _) ?_;refine kA2 ?_;refine zU ?_;refine xf (E2 Ek Ek) (a2N hg hp _ _ (a0D pt4) pm4 _) ?_;refine kQ2 [1] ?_;refine xf (E3 Ek Ek Ek) (a1e hg _ _ _ (a0D ft0) fm0 _) ?_;refine kA1 ?_;refine zU ?_;refine xf (E3 Ek Ek Ek) (a1e hg _ _ _ (a0D ft1) fm1 _) ?_;refine kA2 ?_;refine zU ?_;refine xf (E3 Ek Ek Ek) (a1e hg _ _ _ (a0D ft2) fm2 _) ?_;refine kA2 ?_;refine zU ?_;refine xf (E3 Ek Ek Ek) (a1e hg _ _ _ (a0D ft3) fm3 _) ?_;refine kA2 ?_;refine zU ?_;refine xf (E3 Ek Ek Ek) (a1e hg _ _ _ (a0D ft4) fm4 _) ?_;refine kA2 ?_
 refine zU ?_;refine xf (E3 Ek Ek Ek) (a1e hg _ _ _ (a0D ft5) fm5 _) ?_;refine kA2 ?_;refine zU ?_;refine xf (E3 Ek Ek Ek) (a1e hg _ _ _ (a0D ft6) fm6 _) ?_;refine kA2 ?_;refine zU ?_;refine xf (E3 Ek Ek Ek) (a1e hg _ _ _ (a0D ft7) fm7 _) ?_;refine kQ2 [1,2] ?_;refine xg (E1 Ek) (a6v hg none 0 [] _ (Rd.nilF I6 3 m []) nofun) ?_;rintro _ _ ⟨x,hh,rfl,hst,hok,rfl⟩;rw[c7H];refine kA4 ?_;refine xW fun b3=>?_
 refine kQ3 [1,2,4,5] ?_;refine kA1 ?_;refine xW fun b6=>?_
 refine kQ1 [1,2,4,5,6] ?_;refine kA2 ?_;refine zU ?_;refine kA3 ?_;refine zU ?_;refine kA1 ?_;refine zU ?_;refine kA3 ?_;refine zU ?_;refine kA1 ?_;refine zU ?_;refine kA3 ?_;refine zU ?_;refine kA1 ?_;refine zU ?_;refine xY a0y Eb fun b62=>?_
 refine zU ?_;refine kA1 ?_;refine zU ?_;refine xf (E1 Et) ((b1V hg (unP 10 b62) (c4n (by decide) Me)).val (congrArg Value.bool (c5D _))) ?_;refine zU ?_;refine kA3 ?_;refine zU ?_;refine kA1 ?_;refine zU ?_;refine xf (E1 Et) ((b1V hg skP (c4E m _)).val (congrArg Value.bool c5x)) ?_;refine kA2 ?_;refine zU ?_;refine kA1 ?_;refine zU ?_;refine xY a0y Eb fun b73=>?_
 refine zU ?_;refine kA1 ?_;refine zU ?_;refine xf (E1 Et) ((c2w (unP 16 b73) _ m (c4n (by decide) Me)).val (congrArg (Value.int .i64) (c6d _))) ?_;refine zU ?_;refine kQ3 [0] ?_;refine wT h ?_;exact⟨rfl,rfl⟩
end
section
open Go.Eng Go.Pc Go
open Go.Xp hiding B C2
open Go.Ty (Ty Vr eqT tyV I9 PrOk VOk encV D9 N3 D5 eqI a2L a2I)
open Go.Lx (encB C9)
theorem Y8 {α:Type} {q:α->α->Bool}:∀ l r:List α,(∀ x ∈ l,∀ y,q x y=q y x)->eqL q l r=eqL q r l
 | [],[],_=>rfl
 | [],_::_,_=>rfl
 | _::_,[],_=>rfl
 | a::r,b::s,h=>by show(q a b&&eqL q r s)=(q b a&&eqL q s r);rw[h a (List.mem_cons_self ..) b,Y8 r s (fun x hx=>h x (List.mem_cons_of_mem _ hx))]
theorem W4 (a b:Ex):E8 a b=E8 b a:=by rw[Bool.eq_iff_iff,a0L,a0L];exact eq_comm
theorem O5 {α:Type} [BEq α] [LawfulBEq α] (a b:α):(a==b)=(b==a):=by rw[Bool.eq_iff_iff,beq_iff_eq,beq_iff_eq];exact eq_comm
theorem b3u (a b:Ty):eqT a b=eqT b a:=by rw[Bool.eq_iff_iff,Go.Ty.eqT_iff,Go.Ty.eqT_iff];exact eq_comm
theorem b8A (a b:Fo):a1R a b=a1R b a:=by unfold a1R;rw[O5 a.val,b3u a.ty,O5 a.name]
theorem b3J (a b:Vr):U8 a b=U8 b a:=by unfold U8;rw[O5 a.tag,O5 a.items]
theorem a2B (l r:List Ex):eqL E8 l r=eqL E8 r l:=Y8 l r fun x _ y=>W4 x y
theorem a8v (p:Pr):∀ q,K2 p q=K2 q p:=by
 refine Pr.ind (q:=fun p=>∀ q,K2 p q=K2 q p) (fun p ih q=>?_) p;have hs:a3b p.sp q.sp=a3b q.sp p.sp:=by
  rw[a6a,a6a,O5 p.sp.k,b3u p.sp.ty,Y8 p.sp.fs.l _ fun x _ y=>b8A x y,Y8 p.sp.names.l _ fun x _ y=>O5 x y,W4 p.sp.e,Y8 p.sp.bl _ fun x hx y=>ih x (.s hx) y];unfold a1g;rw[O5 p.sp.cs,Y8 p.sp.vs.l _ fun x _ y=>b3J x y]
 have hg:eqL a0c p.gl q.gl=eqL a0c q.gl p.gl:=Y8 p.gl _ fun x hx y=>by
  rw[a7Y,a7Y,O5 x.k,O5 x.name,W4 x.cond,W4 x.ch,W4 x.time,a2B x.tg.l,a2B x.vl.l,Y8 x.bl _ fun z hz w=>ih z (.g hx hz) w]
 rw[a9x p q,a9x q p,hs,hg,Y8 p.pn.l _ fun x _ y=>O5 x y,O5 p.k,O5 p.name,W4 p.ch,a2B p.tg.l,a2B p.ex.l,Y8 p.ll _ fun x hx y=>ih x (.l hx) y];unfold a5n;rw[O5 p.rep.name,W4 p.rep.base,W4 p.rep.count]
end
end Go.Proofs.YtmhkeomphdddaaaGreatDoor
namespace Go.Proofs.YtmhkeomphdddaaaGreatDoor.Ly7
section
open Go.Eng Go.Ly Go
theorem a5R (c d:UInt8):((c.toNat:Int)==(d.toNat:Int))=(c==d):=by
 rw[Bool.eq_iff_iff];simp only[beq_iff_eq];constructor
 ·intro h
  apply UInt8.toNat_inj.1;exact_mod_cast h
 ·rintro rfl
  rfl
theorem b1Y (c:UInt8):((c.toNat:Int)==45)=(c==45):=a5R c 45
theorem b1k (c:UInt8):((c.toNat:Int)==32)=(c==32):=a5R c 32
theorem c2a (c:UInt8):(decide ((c.toNat:Int) < 32)||decide ((c.toNat:Int) > 126))=!okB c:=by
 unfold okB;by_cases h1:(c.toNat:Int) < 32
 ·simp[h1]
 ·by_cases h2:(c.toNat:Int) > 126
  ·simp[h2]
  ·simp[h1,h2]
   omega
theorem c1g {s:B} {k:Nat} {c:UInt8} (hc:s[k]?=some c) (hk:s.all okB=(s.drop k).all okB):s.all okB=(okB c&&(s.drop (k+1)).all okB):=by
 rw[hk,S7 hc];rfl
theorem a8O (s:B) (h:List Res) (m:View) (hs:s.length<=140737488355328):CT Tryz.prog 37 [str s] h m (A4 h (.bool (s.all okB))):=by
 have hd:∀ k,k < s.length->s[k]?=some (s.getD k 0):=fun k hi=>by rw[List.getD_eq_getElem?_getD,List.getElem?_eq_getElem hi];rfl
 refine CT.body Tryz.call37 Tryz.func37 rfl Tryz.ntmps37 Lb rfl ?_;refine kQ1 [0] ?_;refine kQ1 [0,3] ?_;refine B0 [0] rfl (fun μ F' h'=>∃ k:Nat,(k<=s.length/\s.all okB=(s.drop k).all okB)/\s.length - k=μ/\F'=[(3,.int .i64 k)]/\h=h') (s.length - 0) [(3,.int .i64 0)] (h0:=h) ?_ Sb ⟨0,⟨by omega,rfl⟩,rfl,rfl,rfl⟩ ?_;exact Su;rintro _ _ _ ⟨k,⟨hk,hJ⟩,rfl,rfl,rfl⟩;refine B2 rfl ?_;refine kA2 ?_;refine xG (I0 uu9 Et) ?_;refine kQ1 [0,3,7] ?_;refine wc (fun c7=>?_) fun c7=>?_
 replace c7:=dT c7;obtain⟨c,hc⟩:=A3 (l:=s) (k:=k) (by omega);have hJ:=c1g hc hJ;have hn:=c2a c;refine kQ0 [0,3] ?_;refine kA2 ?_;refine xG (H1 uu9 Et Et rfl (by assumption)) ?_;refine kA4 ?_;refine zG (fun hc=>H1 uu9 (Eg hc) (Eg hc) rfl (by assumption)) ?_;refine kQ2 [0,3,19] ?_;refine wc (fun c19=>?_) fun c19=>?_
 replace hn:=hn.symm.trans c19;refine kQ1 [2] ?_;refine wT h ?_;exact⟨by rw[hJ,show okB c=false by simpa using hn];rfl,rfl⟩;replace hn:=hn.symm.trans c19;refine kQ0 [0,3] ?_;refine kA3 ?_;refine WL.nil (A5 (s.length - (k+1)) [(3,.int .i64 (k+1))] (h'':=h) (by omega) ?_ Su Sb ⟨k+1,⟨by omega,by rw[hJ,show okB c=true by simpa using hn];rfl⟩,rfl,rfl,rfl⟩);exact Su;replace c7:=dF c7;refine kQ0 [] ?_;refine kQ1 [2] ?_;refine wT h ?_;exact⟨by rw[hJ,List.drop_eq_nil_of_le (by omega)];rfl,rfl⟩
theorem b8f {s:B} (h0:s≠[]):a7A s=b0s.contains (s.getD (s.length - 1) 0):=by
 unfold a7A;rw[List.getLast?_eq_getElem?,List.getD_eq_getElem?_getD,List.getElem?_eq_getElem (by have:=List.length_pos_iff.2 h0;omega)];rfl
theorem c0H (s:B) (h:List Res) (m:View) (hs:s.length<=140737488355328):CT Tryz.prog 36 [str s] h m (A4 h (.bool (a7A s))):=by
 have hd:∀ k,k < s.length->s[k]?=some (s.getD k 0):=fun k hi=>by rw[List.getD_eq_getElem?_getD,List.getElem?_eq_getElem hi];rfl
 refine CT.body Tryz.call36 Tryz.func36 rfl Tryz.ntmps36 Lb rfl ?_;refine kQ1 [0] ?_;refine kA1 ?_;refine xG (I0 uu9 Et) ?_;refine kQ1 [0,6] ?_;refine wc (fun c6=>?_) fun c6=>?_
 replace c6:=G3 c6;refine kQ1 [2] ?_;refine wT h ?_;exact⟨by rw[List.eq_nil_of_length_eq_zero (l:=s) (by omega)];rfl,rfl⟩;replace c6:=G2 c6;have h0:s≠[]:=fun e=>c6 (by rw[e];rfl)
 have hp:0 < s.length:=List.length_pos_iff.2 h0;have hc:=b8f h0;refine kQ0 [0] ?_;refine kQ1 [0,3] ?_;refine B0 [0] rfl (fun μ F' h'=>∃ k:Nat,(k<=14/\a7A s=(b0s.drop k).contains (s.getD (s.length - 1) 0))/\14 - k=μ/\F'=[(3,.int .i64 k)]/\h=h') (14 - 0) [(3,.int .i64 0)] (h0:=h) ?_ Sb ⟨0,⟨by omega,hc⟩,rfl,rfl,rfl⟩ ?_;exact Su;rintro _ _ _ ⟨k,⟨hk,hJ⟩,rfl,rfl,rfl⟩;refine B2 rfl ?_;refine kQ2 [0,3,8] ?_;refine wc (fun c8=>?_) fun c8=>?_
 replace c8:=dT c8;obtain⟨c,hcc⟩:=A3 (l:=b0s) (k:=k) (by show k < 14;omega);rw[S7 hcc,List.contains_cons] at hJ;refine kQ0 [0,3] ?_;refine dS [] (.op 0 (.op 1 (.op 2 (.op 3 (.op 4 (.op 5 (.op 6 .nil))))))) [7] D7 ?_;refine kA2 ?_;refine yG rfl (I0 uu9 Et) ?_;refine yG rfl (Q5 Et Ek (by omega)) ?_;refine yG rfl (H1 uu9 Et Et (q:=s.length - 1) (by omega) (hd _ (by omega))) ?_;refine kA1 ?_;refine yG rfl (H1 uu9 Ek Et rfl hcc) ?_;refine SR.nil rfl rfl ?_;refine kQ1 [0,3,18] ?_;refine wc (fun c18=>?_) fun c18=>?_
 rw[a5R] at c18;refine kQ1 [2] ?_;refine wT h ?_;exact⟨by rw[hJ,c18];rfl,rfl⟩;rw[a5R] at c18;refine kQ0 [0,3] ?_;refine kA3 ?_;refine WL.nil (A5 (14 - (k+1)) [(3,.int .i64 (k+1))] (h'':=h) (by omega) ?_ Su Sb ⟨k+1,⟨by omega,by rw[hJ,c18];rfl⟩,rfl,rfl,rfl⟩);exact Su;replace c8:=dF c8;have e:k=14:=by omega
 subst e;refine kQ0 [] ?_;refine kQ1 [2] ?_;refine wT h ?_;exact⟨by rw[hJ];rfl,rfl⟩
theorem b9j (s:B) (h:List Res) (m:View) (hs:s.length<=140737488355328):CT Tryz.prog 18 [str s] h m (A4 h (.bool (validP s))):=by
 have hd:∀ k,k < s.length->s[k]?=some (s.getD k 0):=fun k hi=>by rw[List.getD_eq_getElem?_getD,List.getElem?_eq_getElem hi];rfl
 rw[<- c3B];refine CT.body Tryz.call18 Tryz.func18 rfl Tryz.ntmps18 Lb rfl ?_;refine kQ1 [0] ?_;refine kA1 ?_;refine xG (I0 uu9 Et) ?_;refine kA3 ?_;refine zG (fun hc=>I0 uu9 (Eg hc)) ?_;refine kA4 ?_;refine E6 (GU.f rfl rfl) (fun hc=>H1 uu9 (Eg hc) Ek (q:=0) rfl (hd 0 (by simp at hc;omega))) Lb ?_;refine kA5 ?_;refine zG (fun hc=>I0 uu9 (Eg hc)) ?_;refine E6 (GU.f rfl rfl) (fun hc=>Q5 (Eg hc) Ek (by first | omega | (simp at hc;omega))) Lb ?_;refine E6 (GU.f rfl rfl) (fun hc=>H1 uu9 (Eg hc) (Eg hc) (q:=s.length - 1) (by simp at hc;omega) (hd (s.length - 1) (by simp at hc;omega))) Lb ?_;refine kA4 ?_;refine A6 (GU.f rfl rfl) (fun hc=>⟨Ef,(E1 (Eg hc)),c0H _ _ _ (by omega)⟩) Lb ?_;refine kQ1 [0,28] ?_;refine wc (fun c28=>?_) fun c28=>?_
 have hb:a8m s=true:=by unfold a8m;rw[<- b1k,<- b1k];exact c28
 refine kQ1 [2] ?_;refine wT h ?_;exact⟨by unfold b0H;rw[hb];rfl,rfl⟩;have hb:a8m s=false:=by unfold a8m;rw[<- b1k,<- b1k];exact c28
 refine kQ0 [0] ?_;refine kQ1 [0,3] ?_;refine B0 [0] rfl (fun μ F' h'=>∃ k:Nat,(k<=s.length/\a9e s=a9e (s.drop k))/\s.length - k=μ/\F'=[(3,.int .i64 k)]/\h=h') (s.length - 0) [(3,.int .i64 0)] (h0:=h) ?_ Sb ⟨0,⟨by omega,rfl⟩,rfl,rfl,rfl⟩ ?_;exact Su;rintro _ _ _ ⟨k,⟨hk,hJ⟩,rfl,rfl,rfl⟩;refine B2 rfl ?_;refine kA3 ?_;refine xG (I0 uu9 Et) ?_;refine kQ1 [0,3,33] ?_;refine wc (fun c33=>?_) fun c33=>?_
 replace c33:=dT c33;obtain⟨c,hc⟩:=A3 (l:=s) (k:=k) (by omega);obtain⟨d,hdd⟩:=A3 (l:=s) (k:=k+1) (by omega);rw[c2Y hc hdd] at hJ;refine kQ0 [0,3] ?_;refine kA2 ?_;refine xG (H1 uu9 Et Et rfl (by assumption)) ?_;refine kA4 ?_;refine E6 (GU.t rfl rfl) (fun hc=>M5 (Eg hc) Ek (by first | omega | (simp at hc;omega))) Lb ?_;refine zG (fun hc=>H1 uu9 (Eg hc) (Eg hc) rfl hdd) ?_;refine kQ2 [0,3,46] ?_;refine wc (fun c46=>?_) fun c46=>?_
 have hcd:(c==45&&d==45)=true:=by rw[<- b1Y,<- b1Y];exact c46
 refine kQ1 [2] ?_;refine wT h ?_;exact⟨by unfold b0H;rw[hJ,hcd];simp,rfl⟩;have hcd:(c==45&&d==45)=false:=by rw[<- b1Y,<- b1Y];exact c46
 refine kQ0 [0,3] ?_;refine kA3 ?_;refine WL.nil (A5 (s.length - (k+1)) [(3,.int .i64 (k+1))] (h'':=h) (by omega) ?_ Su Sb ⟨k+1,⟨by omega,by rw[hJ,hcd];rfl⟩,rfl,rfl,rfl⟩);exact Su;replace c33:=dF c33;rw[b8L (by omega)] at hJ;refine kQ0 [0] ?_;refine kA1 ?_;refine xf (E1 Et) (a8O _ _ _ (by omega)) ?_;refine kQ1 [2] ?_;refine wT h ?_;exact⟨by unfold b0H;rw[hb,hJ];rfl,rfl⟩
theorem mayR_ct (a:Option Addr) (n c:Nat) (l:List Rw) (h:List Res) (m:View) (hr:Rd m h a n c 3 (fl I6 l)) (hs:∀ x ∈ l,x.text.length<=140737488355328):CT Tryz.prog 8 [.slice a n c] h m (A4 h (.bool (mayP l))):=by
 have hl:=hr.lenF C6 (by decide);have hmx:=hr.mx;have hle:=hr.le;subst hl;refine CT.body Tryz.call8 Tryz.func8 rfl Tryz.ntmps8 Lb rfl ?_;refine kQ1 [0] ?_;refine kQ3 [0,9] ?_;refine wc (fun c9=>?_) fun c9=>?_
 replace c9:=dT c9;refine kQ1 [2] ?_;refine wT h ?_;exact⟨by unfold mayP;rw[if_pos c9],rfl⟩;replace c9:=dF c9;have hm:mayP l=mayA 0 (-1) 0 l:=by unfold mayP;rw[if_neg c9]
 refine kQ0 [0] ?_;refine kQ1 [0,3] ?_;refine kQ1 [0,3,4] ?_;refine B0 [0] rfl (fun μ F' h'=>∃ k:Nat,∃ no:Int,∃ dp:Int,∃ size:Int,((k<=l.length/\(-1<=dp/\dp<=32)/\(0<=no/\no<=65536)/\(0<=size/\size<=k * 321)/\((k=0/\no=0/\dp=-1)\/∃ y,0 < k/\l[k - 1]?=some y/\y.no=no/\y.depth=dp))/\mayP l=mayA no dp size (l.drop k))/\l.length - k=μ/\F'=[(3,.int .i64 size),(4,.int .i64 k)]/\h=h') (l.length - 0) [(3,.int .i64 0),(4,.int .i64 0)] (h0:=h) ?_ Sb ⟨0,0,-1,0,⟨⟨by omega,by omega,by omega,by omega,.inl ⟨rfl,rfl,rfl⟩⟩,hm⟩,rfl,rfl,rfl⟩ ?_;exact Su;rintro _ _ _ ⟨k,no,dp,size,⟨⟨hk,hdp,hno,hsz,hpr⟩,hJ⟩,rfl,rfl,rfl⟩;refine B2 rfl ?_;refine kQ4 [0,3,4,13] ?_;refine wc (fun c13=>?_) fun c13=>?_
 replace c13:=dT c13;obtain⟨x,hx⟩:=A3 (l:=l) (k:=k) (by omega);have hxs:=hs x (List.mem_of_getElem? hx);rw[b0b hx] at hJ;refine kQ0 [0,3,4] ?_;refine kQ1 [0,3,4,5] ?_;refine kQ1 [0,3,4,5,6] ?_;refine kP2 [0,3,4,5,6,17] ?_;refine I1 KKh [0,3,4] rfl (fun F' h'=>∃ u:Int,∃ w:Int,(u=no+1/\w=dp+1)/\F'=[(5,.int .i64 u),(6,.int .i64 w)]/\h=h') ?_ ?_;refine jE ?_;refine wc (fun c17=>?_) fun c17=>?_
 replace c17:=dT c17;obtain⟨y,hy0,hy,hyn,hyd⟩:=hpr.resolve_left (fun q=>by omega);refine kA2 ?_;refine xG (Q5 Et Ek (by omega)) ?_;refine WL.val (v':=.int .i64 ((k - 1:Nat):Int)) (congrArg (Value.int .i64) (by omega)) ?_;refine kQ5 [0,3,4,5] ?_;refine kA2 ?_;refine xG (Q5 Et Ek (by omega)) ?_;refine WL.val (v':=.int .i64 ((k - 1:Nat):Int)) (congrArg (Value.int .i64) (by omega)) ?_;refine kA5 ?_;refine WL.nil (D0 [(5,.int .i64 (y.no+1)),(6,.int .i64 (y.depth+1))] (h'':=h) ?_ Su Sb ⟨y.no+1,y.depth+1,⟨by omega,by omega⟩,rfl,rfl⟩);exact Su;replace c17:=dF c17;obtain⟨hk0,hn0,hd0⟩:k=0/\no=0/\dp=-1:=hpr.resolve_right (fun ⟨y,q,_⟩=>by omega);refine WC.skip (D0 [(5,.int .i64 1),(6,.int .i64 0)] (h'':=h) ?_ Su Sb ⟨1,0,⟨by omega,by omega⟩,rfl,rfl⟩);exact Su;rintro _ _ ⟨u,w,⟨rfl,rfl⟩,rfl,rfl⟩;refine B2 rfl ?_;refine a9R ?_
 refine E6 (GU.f rfl rfl) (fun hc=>F2 S0.und S0.size S0.posz (Eg hc) (Eg hc) Rr rfl (by omega)) Lb ?_;refine zG (fun hc=>F6 a9y rfl (Nat.ne_of_beq_eq_false rfl) C6 (Nat.succ_pos _) Rr (by assumption) (Eg hc)) ?_;refine zG (fun hc=>G4 uu3 rfl C6 Rr (Eg hc) (by assumption) rfl) ?_;refine kA5 ?_;refine E6 (GU.f rfl rfl) (fun hc=>F2 S0.und S0.size S0.posz (Eg hc) (Eg hc) Rr rfl (by omega)) Lb ?_;refine zG (fun hc=>F6 a9y rfl (Nat.ne_of_beq_eq_false rfl) C6 (Nat.succ_pos _) Rr (by assumption) (Eg hc)) ?_;refine zG (fun hc=>G4 uu3 rfl C6 Rr (Eg hc) (by assumption) rfl) ?_;refine kA5 ?_;refine E6 (GU.f rfl rfl) (fun hc=>F2 S0.und S0.size S0.posz (Eg hc) (Eg hc) Rr rfl (by omega)) Lb ?_;refine zG (fun hc=>F6 a9y rfl (Nat.ne_of_beq_eq_false rfl) C6 (Nat.succ_pos _) Rr (by assumption) (Eg hc)) ?_;refine zG (fun hc=>G4 uu3 rfl C6 Rr (Eg hc) (by assumption) rfl) ?_;refine kA6 ?_
 refine E6 (GU.f rfl rfl) (fun hc=>F2 S0.und S0.size S0.posz (Eg hc) (Eg hc) Rr rfl (by omega)) Lb ?_;refine zG (fun hc=>F6 a9y rfl (Nat.ne_of_beq_eq_false rfl) C6 (Nat.succ_pos _) Rr (by assumption) (Eg hc)) ?_;refine zG (fun hc=>G4 uu3 rfl C6 Rr (Eg hc) (by assumption) rfl) ?_;refine kA5 ?_;refine E6 (GU.f rfl rfl) (fun hc=>F2 S0.und S0.size S0.posz (Eg hc) (Eg hc) Rr rfl (by omega)) Lb ?_;refine zG (fun hc=>F6 a9y rfl (Nat.ne_of_beq_eq_false rfl) C6 (Nat.succ_pos _) Rr (by assumption) (Eg hc)) ?_;refine zG (fun hc=>G4 uu9 rfl C6 Rr (Eg hc) (by assumption) rfl) ?_;refine A6 (GU.f rfl rfl) (fun hc=>⟨Ef,(E1 (Eg hc)),b9j _ _ _ (by omega)⟩) Lb ?_;refine kQ2 [0,3,4,80] ?_;refine wc (fun c80=>?_) fun c80=>?_
 have hb:a9N no dp x=true:=by rw[<- b3b];exact c80
 rw[if_pos hb] at hJ;refine kQ1 [2] ?_;refine wT h ?_;exact⟨by rw[hJ],rfl⟩;have hb:a9N no dp x=false:=by rw[<- b3b];exact c80
 rw[hb] at hJ;obtain⟨h1,h2,h3,h4,h5,h6⟩:=badR_no hb;have h7:=(validP_spec h6).2.1;refine kQ0 [0,3,4] ?_;refine dS [] (.op 0 (.op 1 (.op 2 (.op 3 (.op 4 (.op 5 (.op 6 (.op 7 (.op 8 (.op 9 (.op 10 (.op 11 (.op 12 (.op 13 .nil)))))))))))))) [14,15,16] D7 ?_;refine kA6 ?_;refine yG rfl (a7N Ek Et (by omega)) ?_;refine yG rfl (M5 Et Et (by omega)) ?_;refine kA5 ?_;refine yG rfl (I0 uu9 Et) ?_;refine SR.nil rfl rfl ?_;refine xG (M5 Et Et (by omega)) ?_;refine kQ2 [0,3,4] ?_;refine kA3 ?_;refine WL.nil (A5 (l.length - (k+1)) [(3,.int .i64 (size+2 * x.depth+x.text.length+1)),(4,.int .i64 (k+1))] (h'':=h) (by omega) ?_ Su Sb ⟨k+1,x.no,x.depth,size+2 * x.depth+x.text.length+1,⟨⟨by omega,by omega,by omega,by omega,.inr ⟨x,by omega,hx,rfl,rfl⟩⟩,hJ⟩,rfl,rfl,rfl⟩);exact Su;replace c13:=dF c13;rw[List.drop_eq_nil_of_le (by omega)] at hJ;refine kQ0 [3] ?_;refine kQ3 [2] ?_;refine wT h ?_
 exact⟨by rw[hJ];rfl,rfl⟩
end
end Go.Proofs.YtmhkeomphdddaaaGreatDoor.Ly7
