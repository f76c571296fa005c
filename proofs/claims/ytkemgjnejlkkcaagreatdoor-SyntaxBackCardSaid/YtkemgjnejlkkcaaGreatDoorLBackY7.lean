import Derived.Test.YtkemgjnejlkkcaaGreatDoorLBackY6
import Derived.Lib.SplitLaws
set_option maxRecDepth 100000
set_option maxHeartbeats 2000000
namespace Go.Proofs.YtkemgjnejlkkcaaGreatDoor.Ly7
section
open Go.Eng Go.Ly Go
theorem b1n (l:B) (c:UInt8) (h:List Res) (m:View):CT Tryz.prog 99 [str l,.int .u8 c.toNat] h m (A6 h (.int .i64 (Lib.indexByte l c))):=
 CT.ofCalls Tryz.call99 fun w _=>by
  have:=Tryz.strings_IndexByte ⟨l.toArray⟩ c.toNat w;rw[show(c.toNat:Int).toNat.toUInt8=c by simp] at this;exact this
theorem b6S (c:UInt8) (h:List Res) (m:View):CT Tryz.prog 50 [.int .u8 c.toNat] h m (A6 h (.bool (okB c))):=by
 refine CT.body Tryz.call50 Tryz.func50 rfl Tryz.ntmps50 Lb rfl ?_;refine kQ1 [0] ?_;refine kQ7 [2] ?_;refine wT h ?_;exact⟨rfl,rfl⟩
theorem c4m {s:B} (h0:s≠[]):∃ c,s[s.length - 1]?=some c/\a9m s=b2I.contains c:=by
 refine⟨s.getLast h0,?_,?_⟩
 ·rw[<- List.getLast?_eq_getElem?,List.getLast?_eq_some_getLast h0]
 ·unfold a9m
  rw[List.getLast?_eq_some_getLast h0]
theorem b3F (s:B) (h0:s≠[]) (hs:s.length<=9223372036854775807) (h:List Res) (m:View):CT Tryz.prog 49 [str s] h m (A6 h (.bool (a9m s))):=by
 obtain⟨c,hc,he⟩:=c4m h0;have hp:0 < s.length:=List.length_pos_iff.2 h0;refine CT.body Tryz.call49 Tryz.func49 rfl Tryz.ntmps49 Lb rfl ?_;refine kQ1 [0] ?_;refine kA2 ?_;refine xG (K7 uu9 Et) ?_;refine xG (U0 Et Ek (by omega)) ?_;refine WL.val (v':=.int .i64 ((s.length - 1:Nat):Int)) (congrArg (Value.int .i64) (by omega)) ?_;refine xG (J4 uu9 Et Et rfl (by assumption)) ?_;refine xf (E2 Ek Et) (CT.argsE rfl (b1n b2I c _ _)) ?_;refine kQ2 [2] ?_;refine wT h ?_;exact⟨by rw[he,<- b4L],rfl⟩
theorem c7h (s:B) (h:List Res) (m:View) (hs:s.length<=9223372036854775807):CT Tryz.prog 47 [str s,str [32]] h m (A6 h (str (Lib.trimB s 32))):=
 ⟨Tryz.call47,fun w st=>Calls.mono (Tryz.strings_Trim_one ⟨s.toArray⟩ 32 (by decide) w hs) (by
  rintro e w' ⟨rfl,hw⟩;rcases hw with rfl | rfl
  ·exact⟨_,m,h,rfl,Vl,st,rfl,rfl⟩
  ·exact⟨_,m,h,rfl,Vl,st.drew,rfl,rfl⟩)⟩
theorem c2b {m:View} (hg:Glob m) (s:B) (hs:s.length<=140737488355328) (h:List Res):CT Tryz.prog 31 [str s] h m (A6 h (.bool (validP s))):=by
 have hs':s.length<=140737488355328:=by omega
 have hs2:s.length<=9223372036854775807:=by omega
 have hd:∀ k,k < s.length->s[k]?=some (s.getD k 0):=fun k hi=>by rw[List.getD_eq_getElem?_getD,List.getElem?_eq_getElem hi];rfl
 refine CT.body Tryz.call31 Tryz.func31 rfl Tryz.ntmps31 Lb rfl ?_;refine kQ1 [0] ?_;refine kA1 ?_;refine xG (Q1 Et Ek) ?_;refine kA2 ?_;refine zG (fun hc=>K7 uu9 (Eg hc)) ?_;refine kA4 ?_;refine A9 (GU.f rfl rfl) (fun hc=>⟨Ef,(E2 (Eg hc) Ek),c7h s _ _ hs2⟩) Lb ?_;refine kA1 ?_;refine zG (fun hc=>V0 (Eg hc) (Eg hc)) ?_;refine kA3 ?_;refine A9 (GU.f rfl rfl) (fun hc=>⟨Ef,(E2 (Eg hc) Ek),a2r hg s [45,45] (by simp at hc;omega) _⟩) Lb ?_;refine kA3 ?_;refine A9 (GU.f rfl rfl) (fun hc=>⟨Ef,(E1 (Eg hc)),b3F s (by intro e;subst e;simp at hc) hs2 _ _⟩) Lb ?_;refine kQ1 [0,24] ?_;refine wc (fun c24=>?_) fun c24=>?_
 have hb:c0I s=true:=c24;refine kQ1 [2] ?_;refine wT h ?_;exact⟨by unfold validP;rw[hb];rfl,rfl⟩;have hb:c0I s=false:=c24;have hv:validP s=s.all okB:=by unfold validP;rw[hb];rfl
 refine kQ0 [0] ?_;refine kA1 ?_;refine xG (K7 uu9 Et) ?_;refine kQ1 [0,26,27] ?_;refine B6 [0,26] rfl (fun μ F' h'=>∃ k:Nat,(k<=s.length/\s.all okB=(s.drop k).all okB)/\s.length - k=μ/\F'=[(27,.int .i64 k)]/\h=h') (s.length - 0) [(27,.int .i64 0)] (h0:=h) ?_ Sb ⟨0,⟨by omega,rfl⟩,rfl,rfl,rfl⟩ ?_;exact Su;rintro _ _ _ ⟨k,⟨hk,hJ⟩,rfl,rfl,rfl⟩;refine B9 rfl ?_;refine kQ1 [0,26,27,28] ?_;refine wc (fun c28=>?_) fun c28=>?_
 replace c28:=dT c28;obtain⟨c,hc⟩:=A5 (l:=s) (k:=k) (by omega);have hJ:s.all okB=(okB c&&(s.drop (k+1)).all okB):=by rw[hJ,X2 hc];rfl
 refine kQ0 [0,26,27] ?_;refine kQ2 [0,3,26,27] ?_;refine kA2 ?_;refine xG (J4 uu9 Et Et rfl (by assumption)) ?_;refine xf (E1 Et) (b6S _ _ _) ?_;refine kQ1 [0,26,27,34] ?_;refine wc (fun c34=>?_) fun c34=>?_
 have hn:okB c=false:=by simpa using c34
 refine kQ1 [2] ?_;refine wT h ?_;exact⟨by rw[hv,hJ,hn];rfl,rfl⟩;have hn:okB c=true:=by simpa using c34
 refine kQ0 [0,26,27] ?_;refine kA2 ?_;refine WL.nil (A7 (s.length - (k+1)) [(27,.int .i64 (k+1))] (h'':=h) (by omega) ?_ Su Sb ⟨k+1,⟨by omega,by rw[hJ,hn];rfl⟩,rfl,rfl,rfl⟩);exact Su;replace c28:=dF c28;refine kQ0 [] ?_;refine kQ1 [2] ?_;refine wT h ?_;exact⟨by rw[hv,hJ,List.drop_eq_nil_of_le (by omega)];rfl,rfl⟩
theorem may_ct {m:View} (hg:Glob m) (a:Option Addr) (n c:Nat) (l:List Rw) (h:List Res) (hr:Rd m h a n c 3 (fl S9 l)) (hs:∀ x ∈ l,x.text.length<=140737488355328):CT Tryz.prog 18 [.slice a n c] h m (A6 h (.bool (mayP l))):=by
 have hl:=hr.lenF F7 (by decide);have hmx:=hr.mx;have hle:=hr.le;subst hl;refine CT.body Tryz.call18 Tryz.func18 rfl Tryz.ntmps18 Lb rfl ?_;refine kQ1 [0] ?_;refine kQ3 [0,10] ?_;refine wc (fun c10=>?_) fun c10=>?_
 replace c10:=dT c10;refine kQ1 [2] ?_;refine wT h ?_;exact⟨by unfold mayP;rw[if_pos c10],rfl⟩;replace c10:=dF c10;have hm:mayP l=b1M 0 (-1) 0 l:=by unfold mayP;rw[if_neg c10]
 refine kQ0 [0] ?_;refine kQ3 [0,3,4,5] ?_;refine kQ3 [3,4,5,11,12,13] ?_;refine B6 [11,12] rfl (fun μ F' h'=>∃ k:Nat,∃ no:Int,∃ dp:Int,∃ size:Int,((k<=l.length/\(-1<=dp/\dp<=32)/\(0<=size/\size<=k * 321))/\mayP l=b1M no dp size (l.drop k))/\l.length - k=μ/\F'=[(3,.int .i64 no),(4,.int .i64 dp),(5,.int .i64 size),(13,.int .i64 k)]/\h=h') (l.length - 0) [(3,.int .i64 0),(4,.int .i64 (-1)),(5,.int .i64 0),(13,.int .i64 0)] (h0:=h) ?_ Sb ⟨0,0,-1,0,⟨⟨by omega,by omega,by omega⟩,hm⟩,rfl,rfl,rfl⟩ ?_;exact Su;rintro _ _ _ ⟨k,no,dp,size,⟨⟨hk,hdp,hsz⟩,hJ⟩,rfl,rfl,rfl⟩;refine B9 rfl ?_;refine kQ1 [3,4,5,11,12,13,14] ?_;refine wc (fun c14=>?_) fun c14=>?_
 replace c14:=dT c14;obtain⟨x,hx⟩:=A5 (l:=l) (k:=k) (by omega);have hxs:=hs x (List.mem_of_getElem? hx);rw[b3c hx] at hJ;refine kQ0 [3,4,5,11,12,13] ?_;refine kA2 ?_;refine xW fun b7=>?_
 refine kQ1 [3,4,5,7,11,12,13] ?_;refine b0P ?_;refine kA6 ?_;refine F9 (GU.f rfl rfl) (fun hc=>O7 (Eg hc) Ek (by first | omega | (simp at hc;omega))) Lb ?_;refine zG (fun hc=>PO.min (Eg hc) Ek) ?_;refine kA5 ?_;refine A9 (GU.f rfl rfl) (fun hc=>⟨Ef,(E1 (Eg hc)),c2b hg x.text hxs _⟩) Lb ?_;refine kQ2 [5,7,11,12,13,44] ?_;refine wc (fun c44=>?_) fun c44=>?_
 have hb:b1S no dp x=true:=c44;rw[if_pos hb] at hJ;refine kQ1 [2] ?_;refine wT h ?_;exact⟨by rw[hJ],rfl⟩;have hb:b1S no dp x=false:=c44;rw[hb] at hJ;obtain⟨h1,h2,h3,h4,h5,h6⟩:=b4m hb;have h7:=(validP_spec h6).2.1;refine kQ0 [5,7,11,12,13] ?_;refine dS [] (.op 0 (.op 1 (.op 2 (.op 3 (.op 4 (.op 5 (.op 6 (.op 7 (.op 8 (.op 9 (.op 10 (.op 11 (.op 12 (.op 13 (.op 14 (.op 15 .nil)))))))))))))))) [16] F1 ?_;refine kA7 ?_;refine yG rfl (a9q Ek Et (by omega)) ?_;refine yG rfl (O7 Et Et (by omega)) ?_;refine kA2 ?_;refine yG rfl (K7 uu9 Et) ?_;refine yG rfl (O7 Et Et (by omega)) ?_;refine yG rfl (O7 Et Ek (by omega)) ?_;refine yG rfl (PO.assign Et) ?_;refine yG rfl (PO.assign Et) ?_;refine SR.nil rfl rfl ?_;refine kQ1 [3,4,5,11,12,13] ?_;refine kA2 ?_
 refine WL.nil (A7 (l.length - (k+1)) [(3,.int .i64 (x.no)),(4,.int .i64 (x.depth)),(5,.int .i64 (size+2 * x.depth+x.text.length+1)),(13,.int .i64 (k+1))] (h'':=h) (by omega) ?_ Su Sb ⟨k+1,x.no,x.depth,size+2 * x.depth+x.text.length+1,⟨⟨by omega,by omega,by omega⟩,hJ⟩,rfl,rfl,rfl⟩);exact Su;replace c14:=dF c14;rw[List.drop_eq_nil_of_le (by omega)] at hJ;refine kQ0 [5] ?_;refine kQ3 [2] ?_;refine wT h ?_;exact⟨by rw[hJ];rfl,rfl⟩
end
end Go.Proofs.YtkemgjnejlkkcaaGreatDoor.Ly7
namespace Go.Proofs.YtkemgjnejlkkcaaGreatDoor
section
open Go.Eng Go.Pc Go.Sx Go
open Go.Xp hiding B D1
open Go.Ty (Ty Vr Tok eqT tyV L5 C0 C3 Y1 zeroK O9 E6)
open Go.Lx (encB D7 lexO)
open Go.Ly (Rw S9 F7 mayP)
abbrev erR (b:Nat) (e:Int):Res:=.pt b (.cells [Value.int .i64 e].toArray 53 (0,0))
abbrev zP:Pr:=p0 0 [] A0 B8 B8 C5
theorem c5g (b0 b1:Nat) (h:List Res) (m:View):b1K Tryz.prog 32 [ptV b0,ptV b1] .returning m h h:=by
 refine a9y Tryz.func32 rfl rfl Tryz.ntmps32 Lb rfl Lb Lb (b5g rfl) rfl ?_;refine kA1 ?_;refine xG (a9J c1M Et rfl) ?_;refine kQ0 [0,1,2,7] ?_;refine wc (fun c7=>?_) fun c7=>?_
 cases c7;refine WC.skip (a9B (h2:=h) (.inr rfl) rfl Sb)
theorem c6r (b0 b1:Nat) (h:List Res) (m:View) (x:Pr) (k e:Int):b1K Tryz.prog 32 [ptV b0,ptV b1] (.panicking [{ v:=wrV e,recovered:=false }]) m (prR b0 x::erR b1 k::h) (prR b0 zP::erR b1 e::h):=by
 refine a9y Tryz.func32 rfl rfl Tryz.ntmps32 Lb rfl Lb Lb b4T (b03 _) ?_;refine kA1 ?_;refine xG (b0n c1M Et rfl) ?_;refine kQ0 [0,1,2,7] ?_;refine wc (fun c7=>?_) fun c7=>?_
 refine kA1 ?_;refine xG (a5f c5p Et) ?_;refine kA3 ?_;refine xW fun b3=>?_
 refine kQ2 [0,1,3,4] ?_;refine kQ2 [0,1,3,14] ?_;refine wc (fun c14=>?_) fun c14=>?_
 cases c14;refine WC.skip (kp [0,1,3] ?_);refine jE ?_;refine WC.take (r:=.pt b0 _) De ?_;refine H0 [3] (.op 0 (.op 1 (.op 2 (.op 3 .nil)))) [4] _ [_] F1 (fun _ _ _ _ _ h=>absurd h.1 (by rintro (q | q) <;> cases q)) [] (by kernel_rfl) ?_;refine yG rfl (PO.build U4 rfl rfl rfl EvP.nil rfl) ?_;refine kA2 ?_;refine SR.store rfl rfl rfl Et Et rfl rfl rfl rfl Up ?_;refine SR.nil rfl rfl ?_;refine kA1 ?_;refine WL.nil (a9B (h2:=prR b0 zP::erR b1 e::h) (.inr rfl) rfl Sb);cases c7
theorem b7G (x y z:Res) (h:List Res):(x::y::z::h).Perm (z::y::x::h):=(List.Perm.swap _ _ _).trans (((List.Perm.swap _ _ _).cons _).trans (List.Perm.swap _ _ _))
abbrev d1H (m:View) (z:Pz) (h:List Res) (v:Value) (h':List Res):Prop:=
 ∃ x bl j e,v=.tuple #[prV x,.int .i64 e]/\h'=psR z j::(bl++h)/\POk m bl x/\((e=0/\b1H z.R=.ok (stP x,j))\/(e≠0/\x=zP/\b1H z.R=.error (e,j)))
theorem c9R {m:View} (hg:Glob m) {z:Pz} (hz:Pok m z) (h:List Res):CT Tryz.prog 19 [ptV z.bp] (psR z 0::h) m (fun v _ h'=>d1H m z h v h'):=by
 have hR:=hz.ok.1;have hrd:=hz.rd.mono Vl (List.nil_sublist h);have hq:b1H z.R=M8 (A4 z.R z.R.length 0 true 0) fun x i=>match z.R[i]? with
  | none=>.ok (x,i)
  | some y=>.error (if (lexO y.text).2.2≠0 then (lexO y.text).2.2 else 110,i):=rfl
 have key:∀ (n:Cx) (F:Fm) (e:Int) (j:Nat) (y:Int) (p:Pr) (b2 b3:Nat),n.ds=[b1L 32 [ptV b2,ptV b3]]->Go.Eng.look F 2=some (ptV b2)->Go.Eng.look F 3=some (ptV b3)->b1H z.R=.error (e,j)->∀ a w,Fr n F a->St m (psR z j::erR b3 y::prR b2 p::h) w ->
  bodyPostD Tryz.prog Tryz.f19 (RQ m (fun v _ h'=>d1H m z h v h')) (.panic [{ v:=wrV e,recovered:=false }]) a w:=fun n F e j y p b2 b3 hds e1 e2 hA a w ha hs=>
  d0l (P:=Tryz.prog) (fn:=Tryz.f19) (h':=psR z j::h) hds Tryz.call32 (c6r b2 b3 (psR z j::h) m p y e) rfl (L2 U4 rfl rfl e1 Me rfl) (a0z b9T rfl e2 Me rfl) Vl Sb
   ⟨zP,[],j,e,rfl,rfl,c0f _ _ (by decide),.inr ⟨c8N e j hA,rfl,hA⟩⟩ a w ha (hs.perm (b7G _ _ _ _))
 refine CT.bodyD Tryz.call19 Tryz.func19 rfl Tryz.ntmps19 Lb rfl ?_;refine j0 ?_;refine xW fun b2=>?_
 refine xW fun b3=>?_
 refine wn [0,2,3] ?_;refine jE ?_;refine b1w rfl fun ops hG=>?_
 refine WY.po rfl (PO.makeFunc Evs.nil (E2 Et Et)) Lb ?_;refine WY.defer rfl Et ?_;refine kp [0,2,3] ?_;refine kA1 ?_;refine pD (psR z 0) ?_;refine A1 Ef (E3 Et Ek Ek) (d0y hg hz z.R.length 0 0 true _ (by omega) (by omega) (by decide)) Lb (fun v hv hx=>?_) fun v6 h6 hr6=>?_
 ·obtain⟨e,j,hx1,rfl,rfl⟩:=hx
  rw[hx1] at hq;exact key _ _ e j 0 zP b2 b3 rfl rfl rfl hq
 obtain⟨x6,j6,bl6,hM6,hj6,⟨p6,rfl,rfl,hO6⟩,rfl⟩:=hr6;refine WL.perm ((Mv.perm).cons _) ?_;rw[hM6,S4] at hq;refine kA1 ?_;refine wn [0,2,3] ?_;refine jE ?_;refine WC.noPan ?_;refine dS [] (.op 0 (.op 1 (.op 2 (.op 3 (.op 4 (.op 5 (.op 6 (.op 7 (.op 8 .nil))))))))) [9] F1 ?_;refine kA8 ?_;refine yG rfl (a08 b7a Et) ?_;refine SR.nil rfl rfl ?_;refine kQ1 [0,2,3,16] ?_;refine wc (fun c16=>?_) fun c16=>?_
 replace c16:=dT c16;obtain⟨y,hel⟩:=A5 (l:=z.R) (k:=j6) (by omega);rw[hel] at hq;dsimp only at hq;have hop:a1E z.R y.depth j6=if (lexO y.text).2.2≠0 then .error ((lexO y.text).2.2,j6) else .ok (lexO y.text).1:=by
  unfold a1E;rw[hel];simp only[ne_eq,not_true_eq_false,if_false]
 refine jE ?_;refine c1D [] (.op 0 (.op 1 (.op 2 (.op 3 (.op 4 (.op 5 (.op 6 (.op 7 (.op 8 (.op 9 (.op 10 (.op 11 .nil)))))))))))) [12] _ [] F1 (by kernel_rfl) ?_;refine kA9 ?_;refine yG rfl (G8 a1w.und a1w.size a1w.posz (Ev.tmp rfl) (Ev.tmp rfl) Rr rfl (q:=j6) (by omega)) ?_;refine kA2 ?_;refine SR.nil rfl rfl ?_;refine pD (psR z j6) ?_;refine A1 Ef (E2 Et Et) (a4K hg hz j6 y.depth _ (by omega)) Lb (fun v hv hx=>?_) fun v29 h29 hr29=>?_
 ·obtain⟨e,j,hx1,rfl,rfl⟩:=hx
  rw[hop] at hx1;split at hx1
  ·rename_i hl
   cases hx1;rw[if_pos hl] at hq;exact fun a w ha hs=>key _ _ _ _ 0 p6 b2 b3 rfl rfl rfl hq a w ha (hs.sub Sb)
  ·cases hx1
 obtain⟨ts29,b29,a29,c29,hM29,rfl,hk29,rfl⟩:=hr29;refine kQ0 [2,3] ?_;refine A1 Ef Evs.nil (L0 _ _) Lb (fun v hv hx=>?_) fun v30 h30 hr30=>?_
 ·obtain⟨rfl,rfl⟩:=hx
  rw[hop] at hM29;split at hM29
  ·cases hM29
  ·rename_i hl
   rw[if_neg hl] at hq;exact fun a w ha hs=>key _ _ _ _ 0 p6 b2 b3 rfl rfl rfl hq a w ha (hs.sub Sb)
 exact hr30.elim;replace c16:=dF c16;rw[List.getElem?_eq_none (by omega)] at hq;dsimp only at hq;refine kQ0 [2,3] ?_;refine kQ3 [2,3] ?_;refine WC.ret (d1d (h':=psR z j6::(bl6++h)) (.inl rfl) rfl Tryz.call32 (c5g _ _ _ _) rfl (L2 U4 rfl rfl rfl Me rfl) (a0z b9T rfl rfl Me rfl) Vl Sb ?_);exact⟨p6,bl6,j6,0,rfl,rfl,hO6,.inl ⟨rfl,hq⟩⟩
abbrev d1V (m:View) (R:List Rw) (h:List Res) (v:Value) (h':List Res):Prop:=
 ∃ x bl,v=.tuple #[prV x,.int .i64 ((S0 R).2.1:Nat),.int .i64 (S0 R).2.2]/\stP x=(S0 R).1/\POk m bl x/\h'=bl++h
theorem b5s {m:View} (hg:Glob m) (ra:Option Addr) (rc:Nat) (R:List Rw) (h:List Res) (hr:Rd m [] ra R.length rc 3 (fl S9 R)) (ht:∀ x ∈ R,x.text.length<=140737488355328) :
 CT Tryz.prog 10 [.slice ra R.length rc] h m (fun v _ h'=>d1V m R h v h'):=by
 have hq:S0 R=if mayP R then (match b1H R with
  | .ok (x,_)=>(x,0,0)
  | .error (e,i)=>(prM 0 [] A0 [] [] C5 [] [] [] B7,i,e)) else (prM 0 [] A0 [] [] C5 [] [] [] B7,0,2):=rfl
 refine CT.body Tryz.call10 Tryz.func10 rfl Tryz.ntmps10 Lb rfl ?_;refine j0 ?_;refine xW fun b2=>?_
 refine kQ2 [0,2] ?_;refine kA1 ?_;refine xf (E1 Et) (Ly7.may_ct hg ra _ rc R _ (hr.mono Vl (List.nil_sublist _)) ht) ?_;refine kQ1 [0,2,8] ?_;refine wc (fun c8=>?_) fun c8=>?_
 have d8:mayP R=false:=by simpa using c8
 rw[if_neg (K1 d8)] at hq;refine kQ4 [2,3,4] ?_;refine WC.ret (b1I (h':=h) (.inl rfl) rfl (L2 U4 rfl rfl rfl Me rfl) (RV.tmp rfl) (RV.tmp rfl) Vl Sb ?_);exact⟨zP,[],by rw[hq];rfl,by rw[hq];exact Z2 _,c0f _ _ (by decide),rfl⟩;have d8:mayP R=true:=by simpa using c8
 rw[if_pos d8] at hq;refine kQ0 [0,2] ?_;refine kA2 ?_;refine xX fun b12=>?_
 refine kQ1 [2,5] ?_;refine kA1 ?_;refine pD (psR ⟨b12,ra,rc,R⟩ 0) ?_;refine xg (E1 Et) (c9R hg (z:=⟨b12,ra,rc,R⟩) (Pok.of hr d8) _) ?_;rintro _ _ ⟨x15,bl15,j15,e15,rfl,rfl,hO15,hA15⟩;refine WL.perm ((Mv.perm).cons _) ?_;refine kQ5 [2,4,5] ?_;refine kQ2 [2,4,5,19] ?_;refine wc (fun c19=>?_) fun c19=>?_
 replace c19:=a2J c19;obtain⟨rfl,hA⟩:x15=zP/\b1H R=.error (e15,j15):=hA15.elim (fun q=>absurd q.1 c19) fun q=>q.2
 rw[hA] at hq;dsimp only at hq;refine jE ?_;refine WC.take (r:=.pt b2 _) De ?_;refine H0 [6] (.op 0 (.op 1 (.op 2 (.op 3 (.op 4 (.op 5 (.op 6 .nil))))))) [7,8] _ [_] F1 (fun _ _ _ _ _ h=>h) [5] (by kernel_rfl) ?_;refine yG rfl (PO.build U4 rfl rfl rfl EvP.nil rfl) ?_;refine kA5 ?_;refine SR.store rfl rfl rfl Et Et rfl rfl rfl rfl Up ?_;refine SR.nil rfl rfl ?_;refine kQ2 [2,3,4] ?_;refine WC.ret (b1I (h':=h) (.inl rfl) rfl (L2 U4 rfl rfl rfl Me rfl) (RV.tmp rfl) (RV.tmp rfl) Vl Sb ?_);exact⟨zP,[],by rw[hq];rfl,by rw[hq];exact Z2 _,c0f _ _ (by decide),rfl⟩;replace c19:=a2I c19;have hA:b1H R=.ok (stP x15,j15):=hA15.elim (fun q=>q.2) fun q=>absurd c19 q.1
 rw[hA] at hq;dsimp only at hq;refine kQ0 [2] ?_;refine kQ4 [2,3,4] ?_;refine WC.ret (b1I (h':=bl15++h) (.inl rfl) rfl (L2 U4 rfl rfl rfl Me rfl) (RV.tmp rfl) (RV.tmp rfl) Vl Sb ?_);exact⟨x15,bl15,by rw[hq];rfl,by rw[hq],hO15,rfl⟩
end
section
open Go.Eng Go.Lx Go.Ty
def Pow (m : View) : Prop := ∀ h w, St m h w → Lib.TabIs Tryz.prog w "internal/strconv.uint64pow10" .u64 Lib.pow10Tab
theorem c7i (v:Int) (h:List Res) (m:View) (hp:Pow m) (hv:-9223372036854775808<=v/\v<=9223372036854775807):CT Tryz.prog 231 [.int .i64 v] h m (A6 h (str (Lib.itoa v))):=
 CT.ofGrow Tryz.call231 fun w st=>Tryz.strconv_Itoa v hv.1 hv.2 w (hp h w st)
theorem b0f (t:Tok) (s:B) (h:List Res) (m:View) (hg:Glob m) (hs:s.length < 4294967281):CT Tryz.prog 130 [Y1 t,str s] h m (A6 h (.bool (a8u t s))):=by
 refine CT.body Tryz.call130 Tryz.func130 rfl Tryz.ntmps130 Lb rfl ?_;refine j0 ?_;refine xX fun b2=>?_
 refine kQ1 [1,2] ?_;refine kA7 ?_;refine A9 (GU.t rfl rfl) (fun hc=>⟨Ef,(E2 (Eg hc) (Eg hc)),a2r hg s t.text hs _⟩) Lb ?_;refine kQ2 [4] ?_;refine wT h ?_;exact⟨rfl,rfl⟩
theorem a8h {s:B} {k:Nat} (h:k < s.length):(s.drop k).take (k+1 - k)=[s.getD k 0]:=by
 rw[List.drop_eq_getElem_cons h,Nat.add_sub_cancel_left,List.take_succ_cons,List.take_zero,List.getD_eq_getElem?_getD,List.getElem?_eq_getElem h];rfl
theorem d0G (v:Nat):IntKind.u8.wrap (v:Int)=((UInt8.ofNat v).toNat:Int):=by
 rw[UInt8.toNat_ofNat'];unfold IntKind.wrap;simp[IntKind.bits,IntKind.signed]
theorem d0F (v:Nat):a7l .i32 (v:Int) 4=((v / 16:Nat):Int):=by
 unfold a7l;rw[Int.fdiv_eq_ediv_of_nonneg _ (by decide)];simp[IntKind.bits]
theorem c7N {v:Nat} (h:v < 256):c0r .i32 (v:Int) 15=((v % 16:Nat):Int):=by
 have:∀ v,v < 256->c0r .i32 ((v:Nat):Int) 15=((v % 16:Nat):Int):=by decide +kernel
 exact this v h
theorem c1i {v:Nat} (h:v < 256):IntKind.i32.wrap ((v:Int)+1)=((v+1:Nat):Int):=by
 unfold IntKind.wrap;simp[IntKind.bits,IntKind.signed];omega
theorem c2I (v:Nat) (h:List Res) (m:View) (hv:v < 256):CT Tryz.prog 186 [.int .i32 v] h m (A6 h (str (a3W v))):=by
 have hI:=a6s (UInt8.ofNat v) c9t;have hI5:shI v<=4:=hI;refine CT.body Tryz.call186 Tryz.func186 rfl Tryz.ntmps186 Lb rfl ?_;refine kQ1 [0] ?_;refine kA1 ?_;refine xG (PO.conv a4e uu5 Et) ?_;refine WL.val (v':=.int .u8 ((UInt8.ofNat v).toNat:Int)) (congrArg (Value.int .u8) (d0G v)) ?_;refine xf (E2 Ek Et) (CT.argsE rfl (b1n c9t (UInt8.ofNat v) _ _)) ?_;refine WL.val (v':=.int .i64 (shI v)) rfl ?_;refine kQ1 [0,3] ?_;refine kQ3 [0,3,7] ?_;refine wc (fun c7=>?_) fun c7=>?_
 have d7:0<=shI v:=dT c7;obtain⟨k,hk⟩:∃ k:Nat,shI v=k:=⟨(shI v).toNat,by omega⟩;rw[hk];have hk5:k < b6B.length:=by show k < 5;omega
 refine kA3 ?_;refine WL.val (v':=.int .i64 ((k+1:Nat):Int)) (congrArg (Value.int .i64) (by omega)) ?_;refine xG (a2s (s:=b6B) (l:=k) (u:=k+1) uu9 Ek Et Et rfl rfl (by omega) (by omega)) ?_;refine WL.val (v':=str [b6B.getD k 0]) (congrArg str (a8h hk5)) ?_;refine xG (a1A Ek Et (by simp)) ?_;refine kQ1 [2] ?_;refine wT h ?_;exact⟨by unfold a3W;rw[c7,hk];rfl,rfl⟩;refine kQ7 [0,15] ?_;refine wc (fun c15=>?_) fun c15=>?_
 refine jE ?_;refine dS [] (.op 0 (.op 1 (.op 2 (.op 3 (.op 4 (.op 5 (.op 6 (.op 7 (.op 8 (.op 9 (.op 10 (.op 11 (.op 12 .nil))))))))))))) [13,14] F1 ?_;refine kA1 ?_;refine yG rfl (PO.shr Et Ek (by decide)) ?_;refine SR.val (v':=.int .i32 ((v / 16:Nat):Int)) (congrArg (Value.int .i32) (d0F v)) ?_;refine kA1 ?_;refine yG rfl (PO.shr Et Ek (by decide)) ?_;refine SR.val (v':=.int .i32 ((v / 16:Nat):Int)) (congrArg (Value.int .i32) (d0F v)) ?_;refine yG rfl (R7 Et Ek rfl) ?_;refine SR.val (v':=.int .i32 ((v / 16+1:Nat):Int)) (congrArg (Value.int .i32) (c1i (by omega))) ?_;refine yG rfl (a2s (s:=P9) (l:=v / 16) (u:=v / 16+1) uu9 Ek Et Et rfl rfl (by omega) (by show _<=16;omega)) ?_;refine SR.val (v':=str [P9.getD (v / 16) 0]) (congrArg str (a8h (by show _ < 16;omega))) ?_;refine yG rfl (a1A Ek Et (by simp)) ?_;refine kA1 ?_;refine yG rfl (R7 Et Ek rfl) ?_
 refine SR.val (v':=.int .i32 ((v % 16:Nat):Int)) (congrArg (Value.int .i32) (c7N hv)) ?_;refine kA1 ?_;refine yG rfl (R7 Et Ek rfl) ?_;refine SR.val (v':=.int .i32 ((v % 16:Nat):Int)) (congrArg (Value.int .i32) (c7N hv)) ?_;refine yG rfl (R7 Et Ek rfl) ?_;refine SR.val (v':=.int .i32 ((v % 16+1:Nat):Int)) (congrArg (Value.int .i32) (c1i (by omega))) ?_;refine yG rfl (a2s (s:=P9) (l:=v % 16) (u:=v % 16+1) uu9 Ek Et Et rfl rfl (by omega) (by show _<=16;omega)) ?_;refine SR.val (v':=str [P9.getD (v % 16) 0]) (congrArg str (a8h (by show _ < 16;omega))) ?_;refine SR.nil rfl rfl ?_;refine xG (a1A Et Et (by simp)) ?_;refine kQ1 [2] ?_;refine wT h ?_;exact⟨by unfold a3W;rw[c7,c15];rfl,rfl⟩;have hv2:v < 128:=by simp at c15;omega
 refine kQ0 [0] ?_;refine kA1 ?_;refine xG (c5G a4e uu9 Et rfl hv2) ?_;refine kQ1 [2] ?_;refine wT h ?_;exact⟨by unfold a3W;rw[c7,c15];rfl,rfl⟩
theorem c5S {u i:Nat} (hi:i < 8):a7l .u32 (u:Int) (4 * (i:Int))=((u / 16 ^ i:Nat):Int):=by
 unfold a7l;rw[show min (4 * (i:Int)).toNat IntKind.u32.bits=4 * i by show min _ 32=_;omega,Int.fdiv_eq_ediv_of_nonneg _ (Int.le_of_lt (Int.pow_pos (by decide)))];rw[show(16:Nat) ^ i=2 ^ (4 * i) by rw[Nat.pow_mul]];simp
theorem c79 (x:Nat) (hx:x < 4294967296):c0r .u32 (x:Int) 15=((x % 16:Nat):Int):=by
 have e:(BitVec.ofInt 32 (x:Int) &&& BitVec.ofInt 32 15).toNat=x % 16:=by
  rw[BitVec.toNat_and,BitVec.ofInt_natCast,BitVec.toNat_ofNat,Nat.mod_eq_of_lt (by omega),show(BitVec.ofInt 32 15).toNat=2 ^ 4 - 1 from rfl,Nat.and_two_pow_sub_one_eq_mod]
 unfold c0r;rw[show IntKind.u32.bits=32 from rfl,e,a9H (by omega)]
theorem d1Q {k j:Nat} {x:UInt8} {r:B} (hj:j=k+1):(bv (35::(List.replicate (k+1) 0++r))).set (0+j * 1) (.int .u8 x.toNat)=bv (35::(List.replicate k 0++(x::r))):=by
 subst hj;rw[Nat.zero_add,Nat.mul_one];have e:∀ (k:Nat),(bv (List.replicate (k+1) 0++r)).set k (.int .u8 x.toNat)=bv (List.replicate k 0++(x::r)):=by
  intro k;induction k with
  | zero=>rfl
  | succ k ih=>
   show _::(bv (List.replicate (k+1) 0++r)).set k _=_;rw[ih];rfl
 show _::(bv (List.replicate (k+1) 0++r)).set k _=_;rw[e];rfl
theorem c4x (v:Int) (b:Bool) (h:List Res) (m:View) (hp:Pow m) (hv:-2147483648<=v/\v<=2147483647):CT Tryz.prog 185 [.int .i32 v,.bool b] h m (A6 h (str (S7 v b))):=by
 obtain⟨u,hu⟩:∃ u:Nat,IntKind.u32.wrap v=u:=⟨(IntKind.u32.wrap v).toNat,by
  have:0<=IntKind.u32.wrap v:=by unfold IntKind.wrap;simp[IntKind.bits,IntKind.signed];omega
  omega⟩
 have hu32:u < 4294967296:=by
  have:IntKind.u32.wrap v < 4294967296:=by unfold IntKind.wrap;simp[IntKind.bits,IntKind.signed];omega
  omega
 refine CT.body Tryz.call185 Tryz.func185 rfl Tryz.ntmps185 Lb rfl ?_;refine kQ1 [0,1] ?_;refine kQ2 [0,8] ?_;refine wc (fun c8=>?_) fun c8=>?_
 have d8:b=false:=by simpa using c8
 subst d8;refine kA1 ?_;refine xG (PO.conv a4e uu3 Et) ?_;refine WL.val (v':=.int .i64 v) (congrArg (Value.int .i64) (by unfold IntKind.wrap;simp[IntKind.bits,IntKind.signed];omega)) ?_;refine xf (E1 Et) (c7i v _ _ hp (by omega)) ?_;refine kQ1 [4] ?_;refine wT h ?_;exact⟨rfl,rfl⟩;have d8:b=true:=by simpa using c8
 subst d8;refine kQ0 [0] ?_;refine xG (a5W b8w rfl rfl rfl Eb (by exact rfl)) ?_;refine xW fun b5=>?_
 refine kQ1 [0,5] ?_;refine kQ1 [0,5,13] ?_;refine B6 [0,5] rfl (fun μ F' h'=>∃ i:Nat,(i<=8)/\8 - i=μ/\F'=[(13,.int .i64 i)]/\.pt b5 (.cells (bv (35::(List.replicate (8 - i) 0++T7 u i))).toArray 267 (0,0))::h=h') (8 - 0) [(13,.int .i64 0)] (h0:=.pt b5 (.cells (bv (35::(List.replicate (8 - 0) 0++T7 u 0))).toArray 267 (0,0))::h) ?_ Sb ⟨0,by omega,rfl,rfl,rfl⟩ ?_;exact Su;rintro _ _ _ ⟨i,hJ,rfl,rfl,rfl⟩;refine B9 rfl ?_;refine kQ1 [0,5,13,14] ?_;refine wc (fun c14=>?_) fun c14=>?_
 replace c14:=dT c14;have hd:u / 16 ^ i % 16 < 16:=Nat.mod_lt _ (by decide);obtain⟨x,hx⟩:=A5 (l:=P9) (k:=u / 16 ^ i % 16) hd;have hx':P9.getD (u / 16 ^ i % 16) 0=x:=by rw[List.getD_eq_getElem?_getD,hx];rfl
 have hle:u / 16 ^ i < 4294967296:=Nat.lt_of_le_of_lt (Nat.div_le_self _ _) hu32;refine kQ0 [0,5,13] ?_;refine kQ2 [0,5,6,13] ?_;refine kA1 ?_;refine xG (U0 Ek Et (by omega)) ?_;refine kA1 ?_;refine xG (PO.conv a4e b6s Et) ?_;refine WL.val (v':=.int .u32 (u:Int)) (congrArg (Value.int .u32) hu) ?_;refine kA1 ?_;refine xG (a9q Ek Et (by omega)) ?_;refine xG (PO.shr Et Et (by omega)) ?_;refine WL.val (v':=.int .u32 ((u / 16 ^ i:Nat):Int)) (congrArg (Value.int .u32) (c5S (by omega))) ?_;refine kA1 ?_;refine WL.val (v':=.int .u32 ((u / 16 ^ i % 16:Nat):Int)) (congrArg (Value.int .u32) (c79 _ hle)) ?_;refine xG (J4 (l:=P9) (q:=u / 16 ^ i % 16) uu9 Ek Et rfl hx) ?_;refine xG (b8R (sz:=1) b8w rfl Et Et (q:=8 - i) (by omega) (by omega)) ?_;refine c0j (cs:=bv (35::(List.replicate (8 - i) 0++T7 u i))) rfl Et Et rfl rfl (by rw[b4a];simp[a0O];omega) Up ?_
 refine c8x (cs:=(bv (35::(List.replicate (8 - i) 0++T7 u i))).set (0+(8 - i) * 1) _) (cs':=bv (35::(List.replicate (8 - (i+1)) 0++T7 u (i+1)))) (by rw[a6W,hx',show 8 - i=8 - (i+1)+1 by omega];exact d1Q rfl) Up ?_;refine kQ0 [0,5,13] ?_;refine kA2 ?_;refine WL.nil (A7 (8 - (i+1)) [(13,.int .i64 (i+1))] (h'':=.pt b5 (.cells (bv (35::(List.replicate (8 - (i+1)) 0++T7 u (i+1)))).toArray 267 (0,0))::h) (by omega) ?_ Su Sb ⟨i+1,by omega,rfl,rfl,rfl⟩);exact Su;replace c14:=dF c14;have e:i=8:=by omega
 subst e;refine kQ0 [5] ?_;refine xG (b5P b8w rfl (by decide) Et) ?_;refine xG (c3s (bs:=35::T7 u 8) c6k uu5 uu9 Et (Rd.ofPt rfl (by decide) (List.Mem.head _))) ?_;refine kQ1 [4] ?_;refine wT h ?_;exact⟨by unfold S7;rw[hu];rfl,rfl⟩
end
section
open Go.Eng Go.Lx Go.Ty
theorem c6J (t:Tok) (h:List Res) (m:View) (hp:Pow m) (hn:-2147483648<=t.n/\t.n<=2147483647) (hk:G2 t=true):CT Tryz.prog 132 [Y1 t] h m (A6 h (str (M9 t))):=by
 refine CT.body Tryz.call132 Tryz.func132 rfl Tryz.ntmps132 Lb rfl ?_;refine j0 ?_;refine xX fun b1=>?_
 refine kQ1 [1] ?_;refine kQ2 [1,4] ?_;refine kQ2 [1,4,5] ?_;refine wc (fun c5=>?_) fun c5=>?_
 refine kA5 ?_;refine xf (E2 Et Et) (c4x t.n _ _ _ hp hn) ?_;refine kQ1 [2] ?_;refine wT h ?_;exact⟨by unfold M9;rw[c5];rfl,rfl⟩;refine kQ2 [1,13] ?_;refine wc (fun c13=>?_) fun c13=>?_
 have hb:0<=t.n/\t.n < 256:=by
  have e:t.kind=4:=eq_of_beq c13;unfold G2 at hk;rw[e] at hk;simp at hk;omega
 have hsl:=b3h t.n.toNat;refine kA2 ?_;refine WL.val (v':=.int .i32 (t.n.toNat:Int)) (congrArg (Value.int .i32) (by omega)) ?_;refine xf (E1 Et) (c2I t.n.toNat _ _ (by omega)) ?_;refine xG (a1A Ek Et (by simp;omega)) ?_;refine xG (a1A Et Ek (by simp;omega)) ?_;refine kQ1 [2] ?_;refine wT h ?_;exact⟨by unfold M9;rw[c5,c13];rfl,rfl⟩;refine kQ0 [1] ?_;refine kQ3 [2] ?_;refine wT h ?_;exact⟨by unfold M9;rw[c5,c13];rfl,rfl⟩
def TkL (l:List Tok):Prop:=∀ x,x ∈ l->(-2147483648<=x.n/\x.n<=2147483647)/\x.text.length<=140737488355328
theorem c6b {l:List Tok} {i:Nat} {x:Tok} (hx:l[i]?=some x) (h:G2 x=false):l.any (fun t=>!G2 t)=true:=
 List.any_eq_true.2 ⟨x,List.mem_of_getElem? hx,by rw[h];rfl⟩
theorem c4I {l:List Tok} {i:Nat} {x:Tok} (hx:l[i]?=some x) (h:G2 x=true) (hJ:(l.take i).any (fun t=>!G2 t)=false):(l.take (i+1)).any (fun t=>!G2 t)=false:=by
 rw[List.take_add_one,hx,List.any_append,hJ];simp[h]
theorem c8r {l:List Tok} {i:Nat} (hi:i < l.length) (x:Tok):a5k (a5v none (l.take i)) x=(decide ((i:Int) > 0)&&gap (l.getD (i - 1) zeroK) x):=by
 cases i with
 | zero=>rfl
 | succ j=>
  have hj:j < l.length:=by omega
  rw[a9S l j none l[j] (List.getElem?_eq_getElem hj),Nat.add_sub_cancel,List.getD_eq_getElem?_getD,List.getElem?_eq_getElem hj];have:decide (((j+1:Nat):Int) > 0)=true:=by simp
  rw[this];rfl
theorem b9L (a:Option Addr) (k c:Nat) (l:List Tok) (h:List Res) (m:View) (hg:Glob m) (hp:Pow m) (hs:Rd m h a k c 4 (fl C0 l)) (hT:TkL l) :
 CT Tryz.prog 69 [.slice a k c] h m (A6 h (.tuple #[str (textO l).1,.int .i64 (textO l).2])):=by
 have hl:=hs.lenF C3 (by decide);subst hl;have hmx:=hs.mx;have hle:=hs.le;have hq:∀ n:Nat,n < l.length->l[n]?=some (l.getD n zeroK):=fun n hn=>by rw[List.getD_eq_getElem?_getD,List.getElem?_eq_getElem hn];rfl
 refine CT.body Tryz.call69 Tryz.func69 rfl Tryz.ntmps69 Lb rfl ?_;refine kQ2 [0] ?_;refine xG (PO.assign Ef) ?_;refine kQ0 [0,4] ?_;refine kQ3 [0,4,10,11,12] ?_;refine B6 [0,4,10,11] rfl (fun μ F' h'=>∃ i:Nat,(i<=l.length/\(l.take i).any (fun t=>!G2 t)=false)/\l.length - i=μ/\F'=[(12,.int .i64 i)]/\h=h') (l.length - 0) [(12,.int .i64 0)] (h0:=h) ?_ Sb ⟨0,⟨by omega,rfl⟩,rfl,rfl,rfl⟩ ?_;exact Su;rintro _ _ _ ⟨i,⟨hi,hJ⟩,rfl,rfl,rfl⟩;refine B9 rfl ?_;refine kQ1 [0,4,10,11,12,13] ?_;refine wc (fun c13=>?_) fun c13=>?_
 replace c13:=dT c13;obtain⟨x,hx⟩:=A5 (l:=l) (k:=i) (by omega);have hxT:=hT x (List.mem_of_getElem? hx);refine kQ0 [0,4,10,11,12] ?_;refine kA2 ?_;refine xW fun b6=>?_
 refine kQ1 [0,4,6,10,11,12] ?_;refine kA1 ?_;refine xf (E1 Et) (b5q x _ _ hg hxT.2) ?_;refine kQ1 [0,4,10,11,12,18] ?_;refine wc (fun c18=>?_) fun c18=>?_
 have d18:G2 x=false:=by simpa using c18
 have hO:=b9E (c6b hx d18);refine kQ2 [2,3] ?_;refine w2 h ?_;exact⟨by rw[hO],rfl⟩;have d18:G2 x=true:=by simpa using c18
 have hJ2:=c4I hx d18 hJ;refine kQ0 [0,4,10,11,12] ?_;refine kA2 ?_;refine WL.nil (A7 (l.length - (i+1)) [(12,.int .i64 (i+1))] (h'':=h) (by omega) ?_ Su Sb ⟨i+1,⟨by omega,hJ2⟩,rfl,rfl,rfl⟩);exact Su;replace c13:=dF c13;rw[List.take_of_length_le (by omega)] at hJ;have hall:∀ x,x ∈ l->G2 x=true:=fun x hx=>by
  have:=List.any_eq_false.1 hJ x hx;simpa using this
 refine kQ0 [0,4] ?_;refine kQ1 [0,4,7] ?_;refine kQ3 [0,4,7,20,21,22] ?_;refine B6 [0,4,20,21] rfl (fun μ F' h'=>∃ i:Nat,∃ s:B,((i<=l.length/\s.length<=256)/\s=textL none (l.take i))/\l.length - i=μ/\F'=[(7,str s),(22,.int .i64 i)]/\h=h') (l.length - 0) [(7,str ([])),(22,.int .i64 0)] (h0:=h) ?_ Sb ⟨0,[],⟨⟨by omega,by decide⟩,rfl⟩,rfl,rfl,rfl⟩ ?_;exact Su;rintro _ _ _ ⟨i,s,⟨⟨hi,hs256⟩,hS⟩,rfl,rfl,rfl⟩;refine B9 rfl ?_;refine kQ1 [0,4,7,20,21,22,23] ?_;refine wc (fun c23=>?_) fun c23=>?_
 replace c23:=dT c23;obtain⟨x,hx⟩:=A5 (l:=l) (k:=i) (by omega);have hxT:=hT x (List.mem_of_getElem? hx);have hxK:=hall x (List.mem_of_getElem? hx);have hgap:=c8r (l:=l) (i:=i) (by omega) x;have hsn:=b71 none hx;have hxl:=c02 hxT.1 hxT.2;generalize hy:l.getD (i - 1) zeroK=y at hgap;have hqy:0 < i->l[i - 1]?=some y:=fun h0=>by rw[hq (i - 1) (by omega),hy]
 refine kQ0 [0,4,7,20,21,22] ?_;refine kA3 ?_;refine xW fun b9=>?_
 refine kQ2 [0,4,7,8,9,20,21,22] ?_;refine kA4 ?_;refine zG (fun _=>pA K4) ?_;refine A9 (GU.t rfl rfl) (fun hc=>⟨(a09 rfl hc),(E2 (a09 rfl hc) Ek),b0f x b7c _ _ hg (by decide)⟩) Lb ?_;refine kA6 ?_;refine F9 (GU.t rfl rfl) (fun hc=>U0 (Eg hc) Ek (by first | omega | (simp at hc;omega))) Lb ?_;refine F9 (GU.t rfl rfl) (fun hc=>G8 B1.und B1.size B1.posz (Eg hc) (Eg hc) Rr (q:=i - 1) (by simp at hc;omega) (by simp at hc;omega)) Lb ?_;refine F9 (GU.t rfl rfl) (fun hc=>a6z K4 rfl rfl C3 Rr (Eg hc) (hqy (by simp at hc;omega)) rfl rfl (Nat.succ_pos _)) Lb ?_;refine A9 (GU.t rfl rfl) (fun hc=>⟨(a09 rfl hc),(E2 (a09 rfl hc) Ek),b0f y b4x _ _ hg (by decide)⟩) Lb ?_;refine kA5 ?_;refine F9 (GU.t rfl rfl) (fun hc=>U0 (Eg hc) Ek (by first | omega | (simp at hc;omega))) Lb ?_
 refine F9 (GU.t rfl rfl) (fun hc=>G8 B1.und B1.size B1.posz (Eg hc) (Eg hc) Rr (q:=i - 1) (by simp at hc;omega) (by simp at hc;omega)) Lb ?_;refine F9 (GU.t rfl rfl) (fun hc=>H8 K4 rfl (Nat.ne_of_beq_eq_false rfl) C3 (Nat.succ_pos _) Rr (hqy (by simp at hc;omega)) (Eg hc)) Lb ?_;refine F9 (GU.t rfl rfl) (fun hc=>H6 a8X rfl C3 Rr (Eg hc) (hqy (by simp at hc;omega)) rfl) Lb ?_;refine kA3 ?_;refine zG (fun _=>pA K4) ?_;refine A9 (a5q rfl rfl) (fun hc=>⟨(a09 rfl hc),(E2 (a09 rfl hc) Ek),b0f x b4x _ _ hg (by decide)⟩) Lb ?_;refine kA1 ?_;refine zG (fun hc=>a3h hc rfl rfl) ?_;refine kP1 [0,4,7,9,20,21,22,59] ?_;refine K6 KKh [0,4,9,20,21,22] rfl (fun F' h'=>∃ u:B,(u=s++sep (a5k (a5v none (l.take i)) x)/\u.length<=257)/\F'=[(7,str u)]/\.pt b9 (.cells (C0 x).toArray 106 (0,0))::h=h') ?_ ?_;refine jE ?_;refine wc (fun c59=>?_) fun c59=>?_
 have d59:a5k (a5v none (l.take i)) x=true:=by rw[hgap];simpa [gap,Bool.and_assoc] using c59
 refine kA1 ?_;refine xG (a1A Et Ek (by simp;omega)) ?_;refine kA1 ?_;refine WL.nil (D8 [(7,str (s++[32]))] (h'':=.pt b9 (.cells (C0 x).toArray 106 (0,0))::h) ?_ Su Sb ⟨s++[32],⟨by rw[d59];rfl,by rw[List.length_append,List.length_singleton];omega⟩,rfl,rfl⟩);exact Su;have d59:a5k (a5v none (l.take i)) x=false:=by rw[hgap];simpa [gap,Bool.and_assoc] using c59
 refine WC.skip (D8 [(7,str s)] (h'':=.pt b9 (.cells (C0 x).toArray 106 (0,0))::h) ?_ Su Sb ⟨s,⟨by rw[d59];exact(List.append_nil s).symm,by omega⟩,rfl,rfl⟩);exact Su;rintro _ _ ⟨u,⟨hu,hul⟩,rfl,rfl⟩;refine B9 rfl ?_;refine kA2 ?_;refine xf (E1 Et) (c6J x _ _ hp hxT.1 hxK) ?_;refine xG (a1A Et Et (by omega)) ?_;refine kQ1 [0,4,7,20,21,22] ?_;refine kA1 ?_;refine xG (K7 uu9 Et) ?_;refine kQ1 [0,4,7,20,21,22,68] ?_;refine wc (fun c68=>?_) fun c68=>?_
 have hlong:256 < (u++M9 x).length:=by have:=of_decide_eq_true c68;omega
 have hO:=b7B hJ (i:=i+1) (by rw[hsn,<- hS,<- List.append_assoc,<- hu];exact hlong);refine kQ2 [2,3] ?_;refine w2 h ?_;exact⟨by rw[hO],rfl⟩;have hshort:(u++M9 x).length<=256:=by have:=of_decide_eq_false c68;omega
 refine kQ0 [0,4,7,20,21,22] ?_;refine kA2 ?_;refine WL.nil (A7 (l.length - (i+1)) [(7,str (u++M9 x)),(22,.int .i64 (i+1))] (h'':=h) (by omega) ?_ Su Sb ⟨i+1,u++M9 x,⟨⟨by omega,hshort⟩,by rw[hsn,<- hS,<- List.append_assoc,<- hu]⟩,rfl,rfl,rfl⟩);exact Su;replace c23:=dF c23;rw[List.take_of_length_le (by omega)] at hS;have hO:=b4X hJ (by rw[<- hS];exact hs256);refine kQ0 [7] ?_;refine kQ3 [2,3] ?_;refine w2 h ?_;exact⟨by rw[hO,hS],rfl⟩
end
section
open Go.Eng Go.Pc Go.Sx Go
open Go.Xp hiding B D1
open Go.Ty (Ty Vr Tok eqT tyV L5 C0 C3 Y1 zeroK O9 E6)
open Go.Lx (encB D7 textO)
open Go.Ly (Rw S9 F7)
abbrev OwT (h:List Res) (l:List Tok) (v:Value) (h':List Res):Prop:=b9R C0 106 4 h l v h'
theorem a3n (s:B) (h:List Res) (m:View):CT Tryz.prog 58 [str s] h m (fun v _ h'=>OwT h [G4 s] v h'):=by
 refine CT.body Tryz.call58 Tryz.func58 rfl Tryz.ntmps58 Lb rfl ?_;refine kQ1 [0] ?_;refine kA2 ?_;refine xY B1 Eb fun b5=>?_
 refine a5I (k:=1) (sz:=4) (cs:=fl C0 [G4 s]) rfl (by decide) Up ?_;refine kQ1 [2] ?_;refine wT (.row (.slice (some ⟨b5,0,none⟩) 1 1) 106 4 1 (fl C0 [G4 s])::h) ?_;exact⟨_,_,1,rfl,rfl,rfl⟩
theorem C9 {m:View} (hg:Glob m) (a:Option Addr) (k c:Nat) (l:List B) (h:List Res) (hs:Rd m h a k c 1 (fl encB l)) (hl:k<=1000) (hw:∀ x ∈ l,x.length<=140737488355328) :
 CT Tryz.prog 42 [.slice a k c] h m (fun v _ h'=>OwT h (l.map A2) v h'):=by
 have hlen:=hs.lenF D7 (by decide);subst hlen;refine CT.body Tryz.call42 Tryz.func42 rfl Tryz.ntmps42 Lb rfl ?_;refine kQ1 [0] ?_;refine WL.addNil 106 4 ?_;refine kQ1 [0,3] ?_;refine kQ3 [3,6,7,8] ?_;refine B6 [6,7] rfl (fun μ F' h'=>∃ a3:Option Addr,∃ c3:Nat,∃ r:List Tok,∃ j:Nat,((j<=l.length/\r.length=j)/\r=(l.take j).map A2)/\l.length - j=μ/\F'=[(3,.slice a3 r.length c3),(8,.int .i64 j)]/\.row (.slice a3 r.length c3) 106 4 r.length (fl C0 r)::h=h') (l.length - 0) [(3,.slice none ([]).length 0),(8,.int .i64 0)] (h0:=.row (.slice none ([]).length 0) 106 4 ([]).length (fl C0 ([]))::h) ?_ Sb ⟨none,0,[],0,⟨⟨by omega,rfl⟩,rfl⟩,rfl,rfl,rfl⟩ ?_;exact Su;rintro _ _ _ ⟨a3,c3,r,j,⟨⟨hj,hr⟩,hJ⟩,rfl,rfl,rfl⟩;refine B9 rfl ?_;refine kQ1 [3,6,7,8,9] ?_;refine wc (fun c9=>?_) fun c9=>?_
 replace c9:=dT c9;obtain⟨s,hx⟩:=A5 (l:=l) (k:=j) (by omega);have htk:(l.take (j+1)).map A2=(l.take j).map A2++[A2 s]:=by rw[a3M hx,List.map_append];rfl
 have hsw:=hw s (List.mem_of_getElem? hx);refine kQ0 [3,6,7,8] ?_;refine kQ3 [3,5,6,7,8] ?_;refine kA1 ?_;refine xf (E1 Et) (a8j s _ _ hg hsw) ?_;refine kQ0 [3,5,6,7,8,13] ?_;refine wc (fun c13=>?_) fun c13=>?_
 have hws:A2 s=⟨2,0,s,0⟩:=by unfold A2;rw[if_pos c13]
 have hln:(r++[A2 s]).length=r.length+1:=List.length_append;refine kA2 ?_;refine xf (E1 Et) (N0 _ _ _) ?_;refine xY B1 Eb fun b17=>?_
 rw[<- hws];refine xD B1 (Ev.tmp rfl) (Ev.tmp rfl) (show r.length+1=(r++[A2 s]).length by simp) (G9 (enc:=C0) _ (A2 s)) fun a18 c18=>?_
 refine kQ1 [3,6,7,8] ?_;refine kA2 ?_;refine WL.nil (A7 (l.length - (j+1)) [(3,.slice a18 (r++[A2 s]).length c18),(8,.int .i64 (j+1))] (h'':=.row (.slice a18 (r++[A2 s]).length c18) 106 4 (r++[A2 s]).length (fl C0 (r++[A2 s]))::h) (by omega) ?_ Su Sb ⟨a18,c18,r++[A2 s],j+1,⟨⟨by omega,by omega⟩,by rw[htk,hJ]⟩,rfl,rfl,rfl⟩);exact Su;have hws:A2 s=⟨5,0,s,0⟩:=by unfold A2;rw[if_neg (K1 c13)]
 have hln:(r++[A2 s]).length=r.length+1:=List.length_append;refine kA2 ?_;refine xf (E1 Et) (J8 _ _ _) ?_;refine xY B1 Eb fun b22=>?_
 rw[<- hws];refine xD B1 (Ev.tmp rfl) (Ev.tmp rfl) (show r.length+1=(r++[A2 s]).length by simp) (G9 (enc:=C0) _ (A2 s)) fun a23 c23=>?_
 refine kQ1 [3,6,7,8] ?_;refine kA2 ?_;refine WL.nil (A7 (l.length - (j+1)) [(3,.slice a23 (r++[A2 s]).length c23),(8,.int .i64 (j+1))] (h'':=.row (.slice a23 (r++[A2 s]).length c23) 106 4 (r++[A2 s]).length (fl C0 (r++[A2 s]))::h) (by omega) ?_ Su Sb ⟨a23,c23,r++[A2 s],j+1,⟨⟨by omega,by omega⟩,by rw[htk,hJ]⟩,rfl,rfl,rfl⟩);exact Su;replace c9:=dF c9;rw[List.take_of_length_le (by omega)] at hJ;subst hJ;refine kQ0 [3] ?_;refine kQ2 [2] ?_;refine wT (.row (.slice a3 (l.map A2).length c3) 106 4 (l.map A2).length (fl C0 (l.map A2))::h) ?_;exact⟨_,_,_,rfl,rfl,rfl⟩
theorem M2 {m:View} (hg:Glob m) (e:Ex) (h:List Res) (hE:EOk m h e):CT Tryz.prog 60 [exV e] h m (fun v _ h'=>OwT h (B5 e) v h'):=by
 refine CT.body Tryz.call60 Tryz.func60 rfl Tryz.ntmps60 Lb rfl ?_;refine j0 ?_;refine xX fun b1=>?_
 refine kQ1 [1] ?_;refine kA1 ?_;refine xg (E1 Et) (c7f hg e _ (hE.t.mono Sb) hE.w) ?_;rintro _ _ ⟨a7,c7,rfl,rfl⟩;refine kQ5 [3] ?_;refine kQ2 [2] ?_;refine wT (.row (.slice a7 (B5 e).length c7) 106 4 (B5 e).length (fl C0 (B5 e))::h) ?_;exact⟨_,_,_,rfl,rfl,rfl⟩
theorem a2U {m:View} (hg:Glob m) (t:Ty) (h:List Res) (hs:t.proto.length<=9223372036854775807):CT Tryz.prog 59 [tyV t] h m (fun v _ h'=>OwT h (F8 t) v h'):=by
 refine CT.body Tryz.call59 Tryz.func59 rfl Tryz.ntmps59 Lb rfl ?_;refine j0 ?_;refine xX fun b1=>?_
 refine kQ1 [1] ?_;refine kA1 ?_;refine xg (E1 Et) (Ty9.tokens_ct t _ _ hg hs) ?_;rintro _ _ ⟨a7,c7,rfl,rfl⟩;refine kQ5 [3] ?_;refine kQ2 [2] ?_;refine wT (.row (.slice a7 (F8 t).length c7) 106 4 (F8 t).length (fl C0 (F8 t))::h) ?_;exact⟨_,_,_,rfl,rfl,rfl⟩
theorem b6C {m:View} (hg:Glob m) (k:Int) (h:List Res):CT Tryz.prog 64 [.int .u8 k] h m (fun v _ h'=>OwT h (W5 k) v h'):=by
 refine CT.body Tryz.call64 Tryz.func64 rfl Tryz.ntmps64 Lb rfl ?_;refine kQ1 [0] ?_;refine kA2 ?_;refine xg (E1 Et) (a2U hg ⟨k,0,0,[]⟩ _ (Nat.zero_le _)) ?_;rintro _ _ ⟨a5,c5,k5,hk5,rfl,rfl⟩;refine kQ1 [2] ?_;refine wT (.row (.slice a5 k5 c5) 106 4 k5 (fl C0 (W5 k))::h) ?_;exact⟨_,_,_,hk5,rfl,rfl⟩
theorem a4h {m:View} (q:FuncId) (f:Ex->List Tok) (sep:B) (a:Option Addr) (k c:Nat) (l:List Ex) (h:List Res) (hs:Rd m h a k c 6 (fl exE l)) (hk:k<=3000) (hb:∀ x ∈ l,(f x).length<=3000)
 (ht:∀ x ∈ l,∀ h',h.Sublist h'->CT Tryz.prog q [exV x] h' m (fun v _ h2=>OwT h' (f x) v h2)) :
 CT Tryz.prog 68 [.slice a k c,str sep,.func (.func q) #[] #[]] h m (fun v _ h'=>OwT h (B4 sep f l) v h'):=by
 have hlen:=hs.lenF a3T (by decide);subst hlen;refine CT.body Tryz.call68 Tryz.func68 rfl Tryz.ntmps68 Lb rfl ?_;refine kQ1 [0,1,2] ?_;refine WL.addNil 106 4 ?_;refine kQ1 [0,1,2,7] ?_;refine kQ3 [1,2,7,10,11,12] ?_;refine B6 [1,2,10,11] rfl (fun μ F' h'=>∃ a7:Option Addr,∃ c7:Nat,∃ r:List Tok,∃ j:Nat,((j<=l.length/\r.length<=j * 3001)/\r=B4 sep f (l.take j))/\l.length - j=μ/\F'=[(7,.slice a7 r.length c7),(12,.int .i64 j)]/\.row (.slice a7 r.length c7) 106 4 r.length (fl C0 r)::h=h') (l.length - 0) [(7,.slice none ([]).length 0),(12,.int .i64 0)] (h0:=.row (.slice none ([]).length 0) 106 4 ([]).length (fl C0 ([]))::h) ?_ Sb ⟨none,0,[],0,⟨⟨by omega,by simp⟩,rfl⟩,rfl,rfl,rfl⟩ ?_;exact Su;rintro _ _ _ ⟨a7,c7,r,j,⟨⟨hj,hr⟩,hJ⟩,rfl,rfl,rfl⟩;refine B9 rfl ?_;refine kQ1 [1,2,7,10,11,12,13] ?_;refine wc (fun c13=>?_) fun c13=>?_
 replace c13:=dT c13;obtain⟨x,hx⟩:=A5 (l:=l) (k:=j) (by omega);have hxm:=List.mem_of_getElem? hx;have hfx:=hb x hxm;have htk:=a3M hx;have h3:j * 3001<=9000000:=by omega
 refine kQ0 [1,2,7,10,11,12] ?_;refine kA3 ?_;refine xW fun b9=>?_
 refine kQ2 [1,2,7,8,9,10,11,12] ?_;refine kP2 [1,2,7,9,10,11,12,18] ?_;refine K6 KKh [1,2,9,10,11,12] rfl (fun F' h'=>∃ a8:Option Addr,∃ c8:Nat,∃ r2:List Tok,(r2.length<=r.length+1/\r2++f x=B4 sep f (l.take (j+1)))/\F'=[(7,.slice a8 r2.length c8)]/\.pt b9 (.cells (exE x).toArray 35 (0,0))::.row (.slice a8 r2.length c8) 106 4 r2.length (fl C0 r2)::h=h') ?_ ?_;refine jE ?_;refine wc (fun c18=>?_) fun c18=>?_
 replace c18:=dT c18;have hln:(r++[(⟨5,0,sep,0⟩:Tok)]).length=r.length+1:=List.length_append;refine kA2 ?_;refine xf (E1 Et) (J8 _ _ _) ?_;refine xY B1 Eb fun b22=>?_
 refine xD B1 (Ev.tmp rfl) (Ev.tmp rfl) (show r.length+1=(r++[(⟨5,0,sep,0⟩:Tok)]).length by simp) (G9 (enc:=C0) _ (⟨5,0,sep,0⟩)) fun a23 c23=>?_
 refine kA1 ?_;refine WL.nil (D8 [(7,.slice a23 (r++[(⟨5,0,sep,0⟩:Tok)]).length c23)] (h'':=.pt b9 (.cells (exE x).toArray 35 (0,0))::.row (.slice a23 (r++[(⟨5,0,sep,0⟩:Tok)]).length c23) 106 4 (r++[(⟨5,0,sep,0⟩:Tok)]).length (fl C0 (r++[(⟨5,0,sep,0⟩:Tok)]))::h) ?_ Su Sb ⟨a23,c23,r++[(⟨5,0,sep,0⟩:Tok)],⟨by omega,by rw[htk,a3z sep f _ x (by intro q;have:=congrArg List.length q;rw[List.length_take] at this;simp only[List.length_nil] at this;omega),<- hJ,List.append_assoc];rfl⟩,rfl,rfl⟩);exact Su;replace c18:=dF c18;have hj0:j=0:=by omega
 subst hj0;have hr0:r=[]:=hJ;subst hr0;refine WC.skip (D8 [(7,.slice a7 ([]).length c7)] (h'':=.pt b9 (.cells (exE x).toArray 35 (0,0))::.row (.slice a7 ([]).length c7) 106 4 ([]).length (fl C0 ([]))::h) ?_ Su Sb ⟨a7,c7,[],⟨by simp,by rw[htk];rfl⟩,rfl,rfl⟩);exact Su;rintro _ _ ⟨a8,c8,r2,⟨hr2,hJ2⟩,rfl,rfl⟩;refine B9 rfl ?_;refine kA3 ?_;refine H1 (Ev.tmp rfl) (E1 (Ev.tmp rfl)) (ht x hxm _ Sb) Lb ?_;rintro _ _ ⟨a27,c27,k27,e27,rfl,rfl⟩;refine kR a27 fun p27 q27 r27=>?_
 have hln:(r2++f x).length=r2.length+k27:=by rw[List.length_append,e27]
 refine xD B1 (Ev.tmp rfl) (Ev.tmp rfl) (show r2.length+k27=(r2++f x).length from hln.symm) (a5s (enc:=C0) r2 (f x)).symm fun a28 c28=>?_
 refine kQ1 [1,2,7,10,11,12] ?_;refine kA2 ?_;refine WL.nil (A7 (l.length - (j+1)) [(7,.slice a28 (r2++f x).length c28),(12,.int .i64 (j+1))] (h'':=.row (.slice a28 (r2++f x).length c28) 106 4 (r2++f x).length (fl C0 (r2++f x))::h) (by omega) ?_ Su Sb ⟨a28,c28,r2++f x,j+1,⟨⟨by omega,by omega⟩,hJ2⟩,rfl,rfl,rfl⟩);exact Su;replace c13:=dF c13;rw[List.take_of_length_le (by omega)] at hJ;subst hJ;refine kQ0 [7] ?_;refine kQ2 [6] ?_;refine wT (.row (.slice a7 (B4 sep f l).length c7) 106 4 (B4 sep f l).length (fl C0 (B4 sep f l))::h) ?_;exact⟨_,_,_,rfl,rfl,rfl⟩
theorem c0Z {m:View} (q:FuncId) (f:Fo->List Tok) (sep:B) (a:Option Addr) (k c:Nat) (l:List Fo) (h:List Res) (hs:Rd m h a k c 6 (fl foE l)) (hk:k<=3000) (hb:∀ x ∈ l,(f x).length<=3000)
 (ht:∀ x ∈ l,∀ h',h.Sublist h'->CT Tryz.prog q [foV x] h' m (fun v _ h2=>OwT h' (f x) v h2)) :
 CT Tryz.prog 61 [.slice a k c,str sep,.func (.func q) #[] #[]] h m (fun v _ h'=>OwT h (B4 sep f l) v h'):=by
 have hlen:=hs.lenF a4J (by decide);subst hlen;refine CT.body Tryz.call61 Tryz.func61 rfl Tryz.ntmps61 Lb rfl ?_;refine kQ1 [0,1,2] ?_;refine WL.addNil 106 4 ?_;refine kQ1 [0,1,2,7] ?_;refine kQ3 [1,2,7,10,11,12] ?_;refine B6 [1,2,10,11] rfl (fun μ F' h'=>∃ a7:Option Addr,∃ c7:Nat,∃ r:List Tok,∃ j:Nat,((j<=l.length/\r.length<=j * 3001)/\r=B4 sep f (l.take j))/\l.length - j=μ/\F'=[(7,.slice a7 r.length c7),(12,.int .i64 j)]/\.row (.slice a7 r.length c7) 106 4 r.length (fl C0 r)::h=h') (l.length - 0) [(7,.slice none ([]).length 0),(12,.int .i64 0)] (h0:=.row (.slice none ([]).length 0) 106 4 ([]).length (fl C0 ([]))::h) ?_ Sb ⟨none,0,[],0,⟨⟨by omega,by simp⟩,rfl⟩,rfl,rfl,rfl⟩ ?_;exact Su;rintro _ _ _ ⟨a7,c7,r,j,⟨⟨hj,hr⟩,hJ⟩,rfl,rfl,rfl⟩;refine B9 rfl ?_;refine kQ1 [1,2,7,10,11,12,13] ?_;refine wc (fun c13=>?_) fun c13=>?_
 replace c13:=dT c13;obtain⟨x,hx⟩:=A5 (l:=l) (k:=j) (by omega);have hxm:=List.mem_of_getElem? hx;have hfx:=hb x hxm;have htk:=a3M hx;have h3:j * 3001<=9000000:=by omega
 refine kQ0 [1,2,7,10,11,12] ?_;refine kA3 ?_;refine xW fun b9=>?_
 refine kQ2 [1,2,7,8,9,10,11,12] ?_;refine kP2 [1,2,7,9,10,11,12,18] ?_;refine K6 KKh [1,2,9,10,11,12] rfl (fun F' h'=>∃ a8:Option Addr,∃ c8:Nat,∃ r2:List Tok,(r2.length<=r.length+1/\r2++f x=B4 sep f (l.take (j+1)))/\F'=[(7,.slice a8 r2.length c8)]/\.pt b9 (.cells (foE x).toArray 97 (0,0))::.row (.slice a8 r2.length c8) 106 4 r2.length (fl C0 r2)::h=h') ?_ ?_;refine jE ?_;refine wc (fun c18=>?_) fun c18=>?_
 replace c18:=dT c18;have hln:(r++[(⟨5,0,sep,0⟩:Tok)]).length=r.length+1:=List.length_append;refine kA2 ?_;refine xf (E1 Et) (J8 _ _ _) ?_;refine xY B1 Eb fun b22=>?_
 refine xD B1 (Ev.tmp rfl) (Ev.tmp rfl) (show r.length+1=(r++[(⟨5,0,sep,0⟩:Tok)]).length by simp) (G9 (enc:=C0) _ (⟨5,0,sep,0⟩)) fun a23 c23=>?_
 refine kA1 ?_;refine WL.nil (D8 [(7,.slice a23 (r++[(⟨5,0,sep,0⟩:Tok)]).length c23)] (h'':=.pt b9 (.cells (foE x).toArray 97 (0,0))::.row (.slice a23 (r++[(⟨5,0,sep,0⟩:Tok)]).length c23) 106 4 (r++[(⟨5,0,sep,0⟩:Tok)]).length (fl C0 (r++[(⟨5,0,sep,0⟩:Tok)]))::h) ?_ Su Sb ⟨a23,c23,r++[(⟨5,0,sep,0⟩:Tok)],⟨by omega,by rw[htk,a3z sep f _ x (by intro q;have:=congrArg List.length q;rw[List.length_take] at this;simp only[List.length_nil] at this;omega),<- hJ,List.append_assoc];rfl⟩,rfl,rfl⟩);exact Su;replace c18:=dF c18;have hj0:j=0:=by omega
 subst hj0;have hr0:r=[]:=hJ;subst hr0;refine WC.skip (D8 [(7,.slice a7 ([]).length c7)] (h'':=.pt b9 (.cells (foE x).toArray 97 (0,0))::.row (.slice a7 ([]).length c7) 106 4 ([]).length (fl C0 ([]))::h) ?_ Su Sb ⟨a7,c7,[],⟨by simp,by rw[htk];rfl⟩,rfl,rfl⟩);exact Su;rintro _ _ ⟨a8,c8,r2,⟨hr2,hJ2⟩,rfl,rfl⟩;refine B9 rfl ?_;refine kA3 ?_;refine H1 (Ev.tmp rfl) (E1 (Ev.tmp rfl)) (ht x hxm _ Sb) Lb ?_;rintro _ _ ⟨a27,c27,k27,e27,rfl,rfl⟩;refine kR a27 fun p27 q27 r27=>?_
 have hln:(r2++f x).length=r2.length+k27:=by rw[List.length_append,e27]
 refine xD B1 (Ev.tmp rfl) (Ev.tmp rfl) (show r2.length+k27=(r2++f x).length from hln.symm) (a5s (enc:=C0) r2 (f x)).symm fun a28 c28=>?_
 refine kQ1 [1,2,7,10,11,12] ?_;refine kA2 ?_;refine WL.nil (A7 (l.length - (j+1)) [(7,.slice a28 (r2++f x).length c28),(12,.int .i64 (j+1))] (h'':=.row (.slice a28 (r2++f x).length c28) 106 4 (r2++f x).length (fl C0 (r2++f x))::h) (by omega) ?_ Su Sb ⟨a28,c28,r2++f x,j+1,⟨⟨by omega,by omega⟩,hJ2⟩,rfl,rfl,rfl⟩);exact Su;replace c13:=dF c13;rw[List.take_of_length_le (by omega)] at hJ;subst hJ;refine kQ0 [7] ?_;refine kQ2 [6] ?_;refine wT (.row (.slice a7 (B4 sep f l).length c7) 106 4 (B4 sep f l).length (fl C0 (B4 sep f l))::h) ?_;exact⟨_,_,_,rfl,rfl,rfl⟩
theorem b9J {m:View} (q:FuncId) (f:B->List Tok) (sep:B) (a:Option Addr) (k c:Nat) (l:List B) (h:List Res) (hs:Rd m h a k c 1 (fl encB l)) (hk:k<=3000) (hb:∀ x ∈ l,(f x).length<=3000)
 (ht:∀ x ∈ l,∀ h',h.Sublist h'->CT Tryz.prog q [str x] h' m (fun v _ h2=>OwT h' (f x) v h2)) :
 CT Tryz.prog 57 [.slice a k c,str sep,.func (.func q) #[] #[]] h m (fun v _ h'=>OwT h (B4 sep f l) v h'):=by
 have hlen:=hs.lenF D7 (by decide);subst hlen;refine CT.body Tryz.call57 Tryz.func57 rfl Tryz.ntmps57 Lb rfl ?_;refine kQ1 [0,1,2] ?_;refine WL.addNil 106 4 ?_;refine kQ1 [0,1,2,7] ?_;refine kQ3 [1,2,7,10,11,12] ?_;refine B6 [1,2,10,11] rfl (fun μ F' h'=>∃ a7:Option Addr,∃ c7:Nat,∃ r:List Tok,∃ j:Nat,((j<=l.length/\r.length<=j * 3001)/\r=B4 sep f (l.take j))/\l.length - j=μ/\F'=[(7,.slice a7 r.length c7),(12,.int .i64 j)]/\.row (.slice a7 r.length c7) 106 4 r.length (fl C0 r)::h=h') (l.length - 0) [(7,.slice none ([]).length 0),(12,.int .i64 0)] (h0:=.row (.slice none ([]).length 0) 106 4 ([]).length (fl C0 ([]))::h) ?_ Sb ⟨none,0,[],0,⟨⟨by omega,by simp⟩,rfl⟩,rfl,rfl,rfl⟩ ?_;exact Su;rintro _ _ _ ⟨a7,c7,r,j,⟨⟨hj,hr⟩,hJ⟩,rfl,rfl,rfl⟩;refine B9 rfl ?_;refine kQ1 [1,2,7,10,11,12,13] ?_;refine wc (fun c13=>?_) fun c13=>?_
 replace c13:=dT c13;obtain⟨x,hx⟩:=A5 (l:=l) (k:=j) (by omega);have hxm:=List.mem_of_getElem? hx;have hfx:=hb x hxm;have htk:=a3M hx;have h3:j * 3001<=9000000:=by omega
 refine kQ0 [1,2,7,10,11,12] ?_;refine kQ5 [1,2,7,8,9,10,11,12] ?_;refine kP2 [1,2,7,9,10,11,12,18] ?_;refine K6 KKh [1,2,9,10,11,12] rfl (fun F' h'=>∃ a8:Option Addr,∃ c8:Nat,∃ r2:List Tok,(r2.length<=r.length+1/\r2++f x=B4 sep f (l.take (j+1)))/\F'=[(7,.slice a8 r2.length c8)]/\.row (.slice a8 r2.length c8) 106 4 r2.length (fl C0 r2)::h=h') ?_ ?_;refine jE ?_;refine wc (fun c18=>?_) fun c18=>?_
 replace c18:=dT c18;have hln:(r++[(⟨5,0,sep,0⟩:Tok)]).length=r.length+1:=List.length_append;refine kA2 ?_;refine xf (E1 Et) (J8 _ _ _) ?_;refine xY B1 Eb fun b22=>?_
 refine xD B1 (Ev.tmp rfl) (Ev.tmp rfl) (show r.length+1=(r++[(⟨5,0,sep,0⟩:Tok)]).length by simp) (G9 (enc:=C0) _ (⟨5,0,sep,0⟩)) fun a23 c23=>?_
 refine kA1 ?_;refine WL.nil (D8 [(7,.slice a23 (r++[(⟨5,0,sep,0⟩:Tok)]).length c23)] (h'':=.row (.slice a23 (r++[(⟨5,0,sep,0⟩:Tok)]).length c23) 106 4 (r++[(⟨5,0,sep,0⟩:Tok)]).length (fl C0 (r++[(⟨5,0,sep,0⟩:Tok)]))::h) ?_ Su Sb ⟨a23,c23,r++[(⟨5,0,sep,0⟩:Tok)],⟨by omega,by rw[htk,a3z sep f _ x (by intro q;have:=congrArg List.length q;rw[List.length_take] at this;simp only[List.length_nil] at this;omega),<- hJ,List.append_assoc];rfl⟩,rfl,rfl⟩);exact Su;replace c18:=dF c18;have hj0:j=0:=by omega
 subst hj0;have hr0:r=[]:=hJ;subst hr0;refine WC.skip (D8 [(7,.slice a7 ([]).length c7)] (h'':=.row (.slice a7 ([]).length c7) 106 4 ([]).length (fl C0 ([]))::h) ?_ Su Sb ⟨a7,c7,[],⟨by simp,by rw[htk];rfl⟩,rfl,rfl⟩);exact Su;rintro _ _ ⟨a8,c8,r2,⟨hr2,hJ2⟩,rfl,rfl⟩;refine B9 rfl ?_;refine kA3 ?_;refine H1 (Ev.tmp rfl) (E1 (Ev.tmp rfl)) (ht x hxm _ Sb) Lb ?_;rintro _ _ ⟨a27,c27,k27,e27,rfl,rfl⟩;refine kR a27 fun p27 q27 r27=>?_
 have hln:(r2++f x).length=r2.length+k27:=by rw[List.length_append,e27]
 refine xD B1 (Ev.tmp rfl) (Ev.tmp rfl) (show r2.length+k27=(r2++f x).length from hln.symm) (a5s (enc:=C0) r2 (f x)).symm fun a28 c28=>?_
 refine kQ1 [1,2,7,10,11,12] ?_;refine kA2 ?_;refine WL.nil (A7 (l.length - (j+1)) [(7,.slice a28 (r2++f x).length c28),(12,.int .i64 (j+1))] (h'':=.row (.slice a28 (r2++f x).length c28) 106 4 (r2++f x).length (fl C0 (r2++f x))::h) (by omega) ?_ Su Sb ⟨a28,c28,r2++f x,j+1,⟨⟨by omega,by omega⟩,hJ2⟩,rfl,rfl,rfl⟩);exact Su;replace c13:=dF c13;rw[List.take_of_length_le (by omega)] at hJ;subst hJ;refine kQ0 [7] ?_;refine kQ2 [6] ?_;refine wT (.row (.slice a7 (B4 sep f l).length c7) 106 4 (B4 sep f l).length (fl C0 (B4 sep f l))::h) ?_;exact⟨_,_,_,rfl,rfl,rfl⟩
theorem b2j {m:View} (q:FuncId) (f:Int->List Tok) (sep:B) (a:Option Addr) (k c:Nat) (l:List Int) (h:List Res) (hs:Rd m h a k c 1 (fl O9 l)) (hk:k<=3000) (hb:∀ x ∈ l,(f x).length<=3000)
 (ht:∀ x ∈ l,∀ h',h.Sublist h'->CT Tryz.prog q [.int .u8 x] h' m (fun v _ h2=>OwT h' (f x) v h2)) :
 CT Tryz.prog 63 [.slice a k c,str sep,.func (.func q) #[] #[]] h m (fun v _ h'=>OwT h (B4 sep f l) v h'):=by
 have hlen:=hs.lenF E6 (by decide);subst hlen;refine CT.body Tryz.call63 Tryz.func63 rfl Tryz.ntmps63 Lb rfl ?_;refine kQ1 [0,1,2] ?_;refine WL.addNil 106 4 ?_;refine kQ1 [0,1,2,7] ?_;refine kQ3 [1,2,7,10,11,12] ?_;refine B6 [1,2,10,11] rfl (fun μ F' h'=>∃ a7:Option Addr,∃ c7:Nat,∃ r:List Tok,∃ j:Nat,((j<=l.length/\r.length<=j * 3001)/\r=B4 sep f (l.take j))/\l.length - j=μ/\F'=[(7,.slice a7 r.length c7),(12,.int .i64 j)]/\.row (.slice a7 r.length c7) 106 4 r.length (fl C0 r)::h=h') (l.length - 0) [(7,.slice none ([]).length 0),(12,.int .i64 0)] (h0:=.row (.slice none ([]).length 0) 106 4 ([]).length (fl C0 ([]))::h) ?_ Sb ⟨none,0,[],0,⟨⟨by omega,by simp⟩,rfl⟩,rfl,rfl,rfl⟩ ?_;exact Su;rintro _ _ _ ⟨a7,c7,r,j,⟨⟨hj,hr⟩,hJ⟩,rfl,rfl,rfl⟩;refine B9 rfl ?_;refine kQ1 [1,2,7,10,11,12,13] ?_;refine wc (fun c13=>?_) fun c13=>?_
 replace c13:=dT c13;obtain⟨x,hx⟩:=A5 (l:=l) (k:=j) (by omega);have hxm:=List.mem_of_getElem? hx;have hfx:=hb x hxm;have htk:=a3M hx;have h3:j * 3001<=9000000:=by omega
 refine kQ0 [1,2,7,10,11,12] ?_;refine kQ5 [1,2,7,8,9,10,11,12] ?_;refine kP2 [1,2,7,9,10,11,12,18] ?_;refine K6 KKh [1,2,9,10,11,12] rfl (fun F' h'=>∃ a8:Option Addr,∃ c8:Nat,∃ r2:List Tok,(r2.length<=r.length+1/\r2++f x=B4 sep f (l.take (j+1)))/\F'=[(7,.slice a8 r2.length c8)]/\.row (.slice a8 r2.length c8) 106 4 r2.length (fl C0 r2)::h=h') ?_ ?_;refine jE ?_;refine wc (fun c18=>?_) fun c18=>?_
 replace c18:=dT c18;have hln:(r++[(⟨5,0,sep,0⟩:Tok)]).length=r.length+1:=List.length_append;refine kA2 ?_;refine xf (E1 Et) (J8 _ _ _) ?_;refine xY B1 Eb fun b22=>?_
 refine xD B1 (Ev.tmp rfl) (Ev.tmp rfl) (show r.length+1=(r++[(⟨5,0,sep,0⟩:Tok)]).length by simp) (G9 (enc:=C0) _ (⟨5,0,sep,0⟩)) fun a23 c23=>?_
 refine kA1 ?_;refine WL.nil (D8 [(7,.slice a23 (r++[(⟨5,0,sep,0⟩:Tok)]).length c23)] (h'':=.row (.slice a23 (r++[(⟨5,0,sep,0⟩:Tok)]).length c23) 106 4 (r++[(⟨5,0,sep,0⟩:Tok)]).length (fl C0 (r++[(⟨5,0,sep,0⟩:Tok)]))::h) ?_ Su Sb ⟨a23,c23,r++[(⟨5,0,sep,0⟩:Tok)],⟨by omega,by rw[htk,a3z sep f _ x (by intro q;have:=congrArg List.length q;rw[List.length_take] at this;simp only[List.length_nil] at this;omega),<- hJ,List.append_assoc];rfl⟩,rfl,rfl⟩);exact Su;replace c18:=dF c18;have hj0:j=0:=by omega
 subst hj0;have hr0:r=[]:=hJ;subst hr0;refine WC.skip (D8 [(7,.slice a7 ([]).length c7)] (h'':=.row (.slice a7 ([]).length c7) 106 4 ([]).length (fl C0 ([]))::h) ?_ Su Sb ⟨a7,c7,[],⟨by simp,by rw[htk];rfl⟩,rfl,rfl⟩);exact Su;rintro _ _ ⟨a8,c8,r2,⟨hr2,hJ2⟩,rfl,rfl⟩;refine B9 rfl ?_;refine kA3 ?_;refine H1 (Ev.tmp rfl) (E1 (Ev.tmp rfl)) (ht x hxm _ Sb) Lb ?_;rintro _ _ ⟨a27,c27,k27,e27,rfl,rfl⟩;refine kR a27 fun p27 q27 r27=>?_
 have hln:(r2++f x).length=r2.length+k27:=by rw[List.length_append,e27]
 refine xD B1 (Ev.tmp rfl) (Ev.tmp rfl) (show r2.length+k27=(r2++f x).length from hln.symm) (a5s (enc:=C0) r2 (f x)).symm fun a28 c28=>?_
 refine kQ1 [1,2,7,10,11,12] ?_;refine kA2 ?_;refine WL.nil (A7 (l.length - (j+1)) [(7,.slice a28 (r2++f x).length c28),(12,.int .i64 (j+1))] (h'':=.row (.slice a28 (r2++f x).length c28) 106 4 (r2++f x).length (fl C0 (r2++f x))::h) (by omega) ?_ Su Sb ⟨a28,c28,r2++f x,j+1,⟨⟨by omega,by omega⟩,hJ2⟩,rfl,rfl,rfl⟩);exact Su;replace c13:=dF c13;rw[List.take_of_length_le (by omega)] at hJ;subst hJ;refine kQ0 [7] ?_;refine kQ2 [6] ?_;refine wT (.row (.slice a7 (B4 sep f l).length c7) 106 4 (B4 sep f l).length (fl C0 (B4 sep f l))::h) ?_;exact⟨_,_,_,rfl,rfl,rfl⟩
theorem a7O {α:Type} {p:α->Prop} {x:α} (h:p x):∀ y ∈ [x],p y:=fun _ hy=>(List.mem_singleton.1 hy) ▸ h
theorem _root_.Go.Pc.EOk.fr {m:View} {h:List Res} {e:Ex} (q:EOk m h e) (fr:List Res):EOk m (fr++h) e:=q.mono (List.sublist_append_right fr h)
theorem K3 {α:Type} {p:α->Prop}:∀ y ∈ ([]:List α),p y:=fun _ hx=>(List.not_mem_nil hx).elim
theorem C2 {α:Type} {p:α->Prop} {x:α} {l:List α} (h:p x) (r:∀ y ∈ l,p y):∀ y ∈ x::l,p y:=fun y hy=>by
 rcases List.mem_cons.1 hy with rfl | hy
 ·exact h
 ·exact r y hy
theorem b5X {m:View} (hg:Glob m) (s:B) (hw:s.length<=1000) (a:Option Addr) (k c:Nat) (l:List Tok) (h:List Res) (hs:Rd m h a k c 4 (fl C0 l)) (hk:k<=9000000):CT Tryz.prog 65 [str s,.slice a k c] h m (fun v _ h'=>OwT h (a1n s l) v h'):=by
 have hlen:=hs.lenF C3 (by decide);subst hlen;refine CT.body Tryz.call65 Tryz.func65 rfl Tryz.ntmps65 Lb rfl ?_;refine j0 ?_;refine WL.addNil 106 4 ?_;refine kQ1 [0,1] ?_;refine kQ3 [0,1,7] ?_;refine wc (fun c7=>?_) fun c7=>?_
 replace c7:=H7 c7;have e7:a1n s l=[]:=by unfold a1n;rw[if_pos (by omega)]
 refine j0 ?_;refine WL.addNil 106 4 ?_;refine kQ1 [4] ?_;refine wT (.row (.slice none 0 0) 106 4 0 (fl C0 [])::h) ?_;rw[e7];exact⟨none,0,0,rfl,rfl,rfl⟩
 replace c7:=H5 c7;have e7:a1n s l=A2 s::l:=by unfold a1n;rw[if_neg (by omega)]
 have hln:(A2 s::l).length=l.length+1:=rfl;refine kQ0 [0,1] ?_;refine kA1 ?_;refine xY Q7 Eb fun b9=>?_
 refine xg (E1 Et) (C9 hg _ 1 _ [s] _ Rr (by decide) (a7O (Nat.le_trans hw (by decide)))) ?_;rintro _ _ ⟨a10,c10,_,rfl,rfl,rfl⟩;refine kA1 ?_;refine xD B1 (Ev.tmp rfl) (Ev.tmp rfl) (show 1+l.length=(A2 s::l).length by rw[hln,Nat.add_comm]) (a5s (enc:=C0) [A2 s] l).symm fun a12 c12=>?_
 refine kQ1 [4] ?_;refine wT (.row (.slice a12 (A2 s::l).length c12) 106 4 (A2 s::l).length (fl C0 (A2 s::l))::h) ?_;rw[e7];exact⟨_,_,_,rfl,rfl,rfl⟩
theorem c7C (n:Nat) (h:List Res) (m:View) (hn:n<=300000):CT Tryz.prog 133 [.slice none 0 0,.int .i64 n] h m (fun v _ h'=>OwT h [] v h'):=by
 refine CT.body Tryz.call133 Tryz.func133 rfl Tryz.ntmps133 Lb rfl ?_;refine kQ1 [0,1] ?_;refine kQ2 [0,1,6] ?_;refine wc (fun c6=>?_) fun c6=>?_
 replace c6:=dT c6;omega;replace c6:=dF c6;refine kQ0 [0,1] ?_;refine kA2 ?_;refine xG (b5N a1x Et) ?_;refine kA2 ?_;refine xG (U0 Et Et (by omega)) ?_;refine xG (U0 Et Et (by omega)) ?_;refine kQ1 [0,1] ?_;refine kQ2 [0,1,16] ?_;refine wc (fun c16=>?_) fun c16=>?_
 replace c16:=dT c16;have hn0:0 < n:=by omega
 refine kA2 ?_;refine xG (b5N a1x Et) ?_;refine xG (a8q B1.und B1.size Et Et rfl (by omega)) ?_;refine kA1 ?_;refine c2S B1 uu3 Et Et (q:=n) (by omega) (by omega) (by omega) (by omega) Lb fun b22 c22 hq22 hc22=>?_
 refine kA2 ?_;refine xG (a8q B1.und B1.size Et Et rfl (by omega)) ?_;refine kQ1 [0] ?_;refine kQ2 [4] ?_;refine wT (.row (.slice (some ⟨b22,0,none⟩) 0 c22) 106 4 0 (fl C0 [])::h) ?_;exact⟨_,_,0,rfl,rfl,by rw[d0U _ _ _ (.inr ⟨_,_,rfl⟩)]⟩;replace c16:=dF c16;refine WC.addNil 106 4 ?_;refine kQ0 [0] ?_;refine kQ2 [4] ?_;refine wT (.row (.slice none 0 0) 106 4 0 (fl C0 [])::h) ?_;exact⟨_,_,0,rfl,rfl,rfl⟩
def ptE (s:Sli Tok):List Value:=[.slice s.a s.l.length s.c]
theorem b8r (s:Sli Tok):(ptE s).length=1:=rfl
set_option linter.defProp false in
@[reducible,instance]def iptE_len:=Go.Eng.Ln.mk b8r (by decide)
theorem a6B (a:Option Addr) (k c:Nat) (ps:List (Sli Tok)) (h:List Res) (m:View) (hs:Rd m h a k c 1 (fl ptE ps)) (hp:∀ p ∈ ps,Rd m h p.a p.l.length p.c 4 (fl C0 p.l)) (hk:k<=10) (hb:∀ p ∈ ps,p.l.length<=30000) :
 CT Tryz.prog 70 [.slice a k c] h m (fun v _ h'=>OwT h (ps.flatMap (·.l)) v h'):=by
 have hlen:=hs.lenF b8r (by decide);subst hlen;refine CT.body Tryz.call70 Tryz.func70 rfl Tryz.ntmps70 Lb rfl ?_;refine kQ1 [0] ?_;refine kQ1 [0,3] ?_;refine kQ3 [0,3,9,10,11] ?_;refine B6 [0,9,10] rfl (fun μ F' h'=>∃ s:Nat,∃ j:Nat,(j<=ps.length/\s<=j * 30000)/\ps.length - j=μ/\F'=[(3,.int .i64 s),(11,.int .i64 j)]/\h=h') (ps.length - 0) [(3,.int .i64 0),(11,.int .i64 0)] (h0:=h) ?_ Sb ⟨0,0,⟨by omega,by omega⟩,rfl,rfl,rfl⟩ ?_;exact Su;rintro _ _ _ ⟨s,j,⟨hj,hs1⟩,rfl,rfl,rfl⟩;refine B9 rfl ?_;refine kQ1 [0,3,9,10,11,12] ?_;refine wc (fun c12=>?_) fun c12=>?_
 replace c12:=dT c12;obtain⟨p,hx⟩:=A5 (l:=ps) (k:=j) (by omega);have hbp:=hb p (List.mem_of_getElem? hx);refine kQ0 [0,3,9,10,11] ?_;refine kQ3 [0,3,5,9,10,11] ?_;refine kA3 ?_;refine xG (O7 Et Et (by omega)) ?_;refine WL.val (v':=.int .i64 ((s+p.l.length:Nat):Int)) (congrArg (Value.int .i64) (by omega)) ?_;refine kQ1 [0,3,9,10,11] ?_;refine kQ2 [0,3,9,10,11,20] ?_;refine wc (fun c20=>?_) fun c20=>?_
 replace c20:=dT c20;omega;replace c20:=dF c20;refine kQ0 [0,3,9,10,11] ?_;refine kA2 ?_;refine WL.nil (A7 (ps.length - (j+1)) [(3,.int .i64 (s+p.l.length)),(11,.int .i64 (j+1))] (h'':=h) (by omega) ?_ Su Sb ⟨s+p.l.length,j+1,⟨by omega,by omega⟩,rfl,rfl,rfl⟩);exact Su;replace c12:=dF c12;refine kQ0 [0,3] ?_;refine kA1 ?_;refine xg (E2 Ek Et) (c7C s _ _ (by omega)) ?_;rintro _ _ ⟨a24,c24,_,rfl,rfl,rfl⟩;refine kQ1 [0,6] ?_;refine kQ3 [6,25,26,27] ?_
 refine B6 [25,26] rfl (fun μ F' h'=>∃ a6:Option Addr,∃ c6:Nat,∃ r:List Tok,∃ j:Nat,((j<=ps.length/\r.length<=j * 30000)/\r=(ps.take j).flatMap (·.l))/\ps.length - j=μ/\F'=[(6,.slice a6 r.length c6),(27,.int .i64 j)]/\.row (.slice a6 r.length c6) 106 4 r.length (fl C0 r)::h=h') (ps.length - 0) [(6,.slice a24 ([]).length c24),(27,.int .i64 0)] (h0:=.row (.slice a24 ([]).length c24) 106 4 ([]).length (fl C0 ([]))::h) ?_ Sb ⟨a24,c24,[],0,⟨⟨by omega,by simp⟩,rfl⟩,rfl,rfl,rfl⟩ ?_;exact Su;rintro _ _ _ ⟨a6,c6,r,j,⟨⟨hj,hr⟩,hJ⟩,rfl,rfl,rfl⟩;refine B9 rfl ?_;refine kQ1 [6,25,26,27,28] ?_;refine wc (fun c28=>?_) fun c28=>?_
 replace c28:=dT c28;obtain⟨p,hx⟩:=A5 (l:=ps) (k:=j) (by omega);have hbp:=hb p (List.mem_of_getElem? hx);have hpr:=hp p (List.mem_of_getElem? hx);have htk:(ps.take (j+1)).flatMap (·.l)=(ps.take j).flatMap (·.l)++p.l:=by rw[a3M hx,List.flatMap_append];simp
 refine kQ0 [6,25,26,27] ?_;refine kQ3 [6,8,25,26,27] ?_;refine kA2 ?_;have hln:(r++p.l).length=r.length+p.l.length:=List.length_append;refine xD B1 (Ev.tmp rfl) (Ev.tmp rfl) (show r.length+p.l.length=(r++p.l).length from hln.symm) (a5s (enc:=C0) r p.l).symm fun a33 c33=>?_
 refine kQ1 [6,25,26,27] ?_;refine kA2 ?_;refine WL.nil (A7 (ps.length - (j+1)) [(6,.slice a33 (r++p.l).length c33),(27,.int .i64 (j+1))] (h'':=.row (.slice a33 (r++p.l).length c33) 106 4 (r++p.l).length (fl C0 (r++p.l))::h) (by omega) ?_ Su Sb ⟨a33,c33,r++p.l,j+1,⟨⟨by omega,by omega⟩,by rw[htk,hJ]⟩,rfl,rfl,rfl⟩);exact Su;replace c28:=dF c28;rw[List.take_of_length_le (by omega)] at hJ;subst hJ;refine kQ0 [6] ?_;refine kQ2 [2] ?_;refine wT (.row (.slice a6 (ps.flatMap (·.l)).length c6) 106 4 (ps.flatMap (·.l)).length (fl C0 (ps.flatMap (·.l)))::h) ?_;exact⟨_,_,_,rfl,rfl,rfl⟩
end
section
open Go.Eng Go.Pc Go.Sx Go
open Go.Xp hiding B D1
open Go.Ty (Ty Vr Tok eqT tyV L5 C0 C3 Y1 zeroK O9 E6 encV F2)
open Go.Lx (encB D7 textO)
open Go.Ly (Rw S9 F7)
theorem a2N {d:Prop} {m:View} {R:Value->View->List Res->Prop} {c:List PanicEntry} {w:World} (h:d/\RQ m R (.panicked c) w):False:=by
 obtain⟨_,_,_,_,e,_⟩:=h;cases e
theorem N6 (e:Ex):(B5 e).length<=2000:=by
 unfold B5;split
 ·rename_i hm
  obtain⟨hF,hc⟩:=a2u hm;have:=a6G e hF;omega
 ·exact Nat.zero_le _
theorem a4w (t:Ty):(F8 t).length<=10:=by
 unfold F8 Go.Ty.tokens;split
 ·unfold Go.Ty.toks
  have h1:=Go.Ty.dimT_le t;have h2:=Go.Ty.chanT_le t;simp only[List.length_append,List.length_singleton];omega
 ·exact Nat.zero_le _
theorem c6w {m:View} (hg:Glob m) (r:Rp) (h:List Res) (hr:Rs m h r):CT Tryz.prog 66 [rpV r] h m (fun v _ h'=>OwT h (Y9 r) v h'):=by
 have hB:=hr.b;have hC:=hr.c;have t1:=N6 r.base;have t2:=N6 r.count;refine CT.body Tryz.call66 Tryz.func66 rfl Tryz.ntmps66 Lb rfl ?_;refine j0 ?_;refine xX fun b1=>?_
 refine kQ1 [1] ?_;refine kA2 ?_;refine xG (Q1 Et Ek) ?_;refine kQ0 [1,5] ?_;refine wc (fun c5=>?_) fun c5=>?_
 have c5:r.name=[]:=by simpa using c5
 have e5:Y9 r=[]:=by unfold Y9;rw[if_pos c5]
 refine WC.addNil 106 4 ?_;refine kQ1 [2] ?_;refine wT (.row (.slice none 0 0) 106 4 0 (fl C0 [])::h) ?_;rw[e5];exact⟨none,0,0,rfl,rfl,rfl⟩
 have c5:¬ (r.name=[]):=by simpa using c5
 have e5:Y9 r=[G4 r.name]++([A2 [61]]++(B5 r.base++([A2 [70,79,82]]++(B5 r.count++[])))):=by unfold Y9;rw[if_neg c5];simp only[List.append_assoc,List.append_nil]
 refine kQ0 [1] ?_;refine a1j [2,3,4,7,8,9,4096] (.op 0 (.op 1 (.op 5 (.op 6 (.op 10 (.op 11 (.op 2 (.op 3 (.op 4 (.op 7 (.op 8 (.op 9 .nil)))))))))))) [12,13,14,15] _ [] F1 (fun _ _ _ h=>a2N h) [] (by kernel_rfl) ?_;refine kA6 ?_;refine J2 rfl rfl Ef (E1 Et) (fun fr=>a3n r.name _ _) Lb fun a8 c8=>?_
 refine sB rfl Q7 fun b9=>?_
 refine J2 rfl rfl Ef (E1 (Ev.tmp rfl)) (fun fr=>C9 hg _ 1 _ [[61]] _ (Rd.fr Rr fr) (by decide) (a7O (by decide))) Lb fun a10 c10=>?_
 refine J2 rfl rfl Ef (E1 Et) (fun fr=>M2 hg r.base _ ((hB.mono Sb).fr fr)) Lb fun a13 c13=>?_
 refine sB rfl Q7 fun b14=>?_
 refine J2 rfl rfl Ef (E1 (Ev.tmp rfl)) (fun fr=>C9 hg _ 1 _ [[70,79,82]] _ (Rd.fr Rr fr) (by decide) (a7O (by decide))) Lb fun a15 c15=>?_
 refine SR.nil rfl rfl ?_;refine xg (E1 Et) (M2 hg r.count _ (hC.mono Sb)) ?_;rintro _ _ ⟨a18,c18,_,rfl,rfl,rfl⟩;refine xY O3 Eb fun b19=>?_
 refine kR a8 fun p8 q8 r8=>?_
 refine kR a10 fun p10 q10 r10=>?_
 refine kR a13 fun p13 q13 r13=>?_
 refine kR a15 fun p15 q15 r15=>?_
 refine kR a18 fun p18 q18 r18=>?_
 refine xg (E1 Et) (a6B _ 5 _ [⟨a8,c8,[G4 r.name]⟩,⟨a10,c10,[A2 [61]]⟩,⟨a13,c13,B5 r.base⟩,⟨a15,c15,[A2 [70,79,82]]⟩,⟨a18,c18,B5 r.count⟩] _ _ (Rd.ofPt rfl (by decide) Me) (C2 (iR r8 p8 q8) (C2 (iR r10 p10 q10) (C2 (iR r13 p13 q13) (C2 (iR r15 p15 q15) (C2 (iR r18 p18 q18) K3))))) (by decide) (C2 (by simp) (C2 (by simp) (C2 (by simp;omega) (C2 (by simp) (C2 (by simp;omega) K3)))))) ?_;rintro _ _ ⟨a20,c20,_,rfl,rfl,rfl⟩;refine kQ1 [2] ?_;refine wT (.row (.slice a20 _ c20) 106 4 _ (fl C0 _)::h) ?_;exact⟨_,_,_,congrArg List.length e5.symm,rfl,by rw[e5];rfl⟩
theorem b7u {m:View} (hg:Glob m) (f:Fo) (h:List Res) (hw:FoW f):CT Tryz.prog 62 [foV f] h m (fun v _ h'=>OwT h (J3 f) v h'):=by
 have t1:=a4w f.ty;have hp2:f.ty.proto.length<=9223372036854775807:=Nat.le_trans hw.t.p (by decide);refine CT.body Tryz.call62 Tryz.func62 rfl Tryz.ntmps62 Lb rfl ?_;refine j0 ?_;refine xX fun b1=>?_
 refine kQ1 [1] ?_;refine kQ1 [1,3] ?_;refine kQ2 [1,3,5] ?_;refine wc (fun c5=>?_) fun c5=>?_
 have e5:J3 f=[A2 [86,65,76]]++(F8 f.ty++([G4 f.name]++[])):=by unfold J3;rw[if_pos c5];simp only[List.append_assoc,List.append_nil]
 refine j0 ?_;refine xY Q7 Eb fun b6=>?_
 refine xg (E1 Et) (C9 hg _ 1 _ [[86,65,76]] _ Rr (by decide) (a7O (by decide))) ?_;rintro _ _ ⟨a7,c7,_,rfl,rfl,rfl⟩;refine kQ1 [1,3] ?_;refine H0 [3] (.op 0 (.op 1 (.op 2 (.op 4 (.op 5 (.op 3 .nil)))))) [6,7,8,9] _ [] F1 (fun _ _ _ _ _ h=>h) [0] (by kernel_rfl) ?_;refine kA5 ?_;refine J2 rfl rfl Ef (E1 Et) (fun fr=>a2U hg f.ty _ hp2) Lb fun a11 c11=>?_
 refine SR.nil rfl rfl ?_;refine xg (E1 Et) (a3n f.name _ _) ?_;rintro _ _ ⟨a14,c14,_,rfl,rfl,rfl⟩;refine xY O3 Eb fun b15=>?_
 refine kR a7 fun p7 q7 r7=>?_
 refine kR a11 fun p11 q11 r11=>?_
 refine kR a14 fun p14 q14 r14=>?_
 refine xg (E1 Et) (a6B _ 3 _ [⟨a7,c7,[A2 [86,65,76]]⟩,⟨a11,c11,F8 f.ty⟩,⟨a14,c14,[G4 f.name]⟩] _ _ (Rd.ofPt rfl (by decide) Me) (C2 (iR r7 p7 q7) (C2 (iR r11 p11 q11) (C2 (iR r14 p14 q14) K3))) (by decide) (C2 (by simp) (C2 (by simp;omega) (C2 (by simp) K3)))) ?_;rintro _ _ ⟨a16,c16,_,rfl,rfl,rfl⟩;refine kQ1 [2] ?_;refine wT (.row (.slice a16 _ c16) 106 4 _ (fl C0 _)::h) ?_;exact⟨_,_,_,congrArg List.length e5.symm,rfl,by rw[e5];rfl⟩;have e5:J3 f=[]++(F8 f.ty++([G4 f.name]++[])):=by unfold J3;rw[if_neg (K1 c5)];simp only[List.append_assoc,List.append_nil]
 refine kQ0 [1,3] ?_;refine H0 [3] (.op 0 (.op 1 (.op 2 (.op 4 (.op 5 (.op 3 .nil)))))) [6,7,8,9] _ [] F1 (fun _ _ _ _ _ h=>h) [0] (by kernel_rfl) ?_;refine kA5 ?_;refine J2 rfl rfl Ef (E1 Et) (fun fr=>a2U hg f.ty _ hp2) Lb fun a11 c11=>?_
 refine SR.nil rfl rfl ?_;refine xg (E1 Et) (a3n f.name _ _) ?_;rintro _ _ ⟨a14,c14,_,rfl,rfl,rfl⟩;refine xY O3 Eb fun b15=>?_
 refine kR a11 fun p11 q11 r11=>?_
 refine kR a14 fun p14 q14 r14=>?_
 refine xg (E1 Et) (a6B _ 3 _ [⟨none,0,[]⟩,⟨a11,c11,F8 f.ty⟩,⟨a14,c14,[G4 f.name]⟩] _ _ (Rd.ofPt rfl (by decide) Me) (C2 (Rd.nilF C0 4 _ _) (C2 (iR r11 p11 q11) (C2 (iR r14 p14 q14) K3))) (by decide) (C2 (by simp) (C2 (by simp;omega) (C2 (by simp) K3)))) ?_;rintro _ _ ⟨a16,c16,_,rfl,rfl,rfl⟩;refine kQ1 [2] ?_;refine wT (.row (.slice a16 _ c16) 106 4 _ (fl C0 _)::h) ?_;exact⟨_,_,_,congrArg List.length e5.symm,rfl,by rw[e5];rfl⟩
abbrev prB (b:Nat) (a:Option Addr) (c:Nat) (st:Ps):Res:=.pt b (.cells [.slice a st.1.length c,.bool st.2].toArray 78 (0,0))
abbrev prW (a:Option Addr) (c:Nat) (st:Ps):Res:=.row (.slice a st.1.length c) 26 3 st.1.length (fl S9 st.1)
theorem Y5 {st:Ps} {x:Ln} (h:st.1.length<=2049):(D0 st x).1.length<=2049:=by
 unfold D0;split
 ·exact h
 ·rename_i q
  simp only[List.length_append,List.length_singleton];omega
theorem a1e:∀ (l:List Ln) {st:Ps},st.1.length<=2049->(C1 st l).1.length<=2049
 | [],_,h=>h
 | x::l,_,h=>a1e l (Y5 (x:=x) h)
abbrev PrR (b:Nat) (h:List Res) (st:Ps) (h':List Res):Prop:=∃ a c,h'=prB b a c st::prW a c st::h
theorem I2 {m:View} (hg:Glob m) (hp:Pow m) (b:Nat) (a:Option Addr) (c:Nat) (st:Ps) (d:Int) (pa:Option Addr) (pk pc:Nat) (ps:List (Sli Tok)) (toks:List Tok) (h:List Res) (hs:Rd m h pa pk pc 1 (fl ptE ps)) (hps:∀ p ∈ ps,Rd m h p.a p.l.length p.c 4 (fl C0 p.l)) (hk:pk<=10)
 (hb:∀ p ∈ ps,p.l.length<=30000) (he:ps.flatMap (·.l)=toks) (hT:TkL toks) (hn:st.1.length<=2049) :
 CT Tryz.prog 41 [ptV b,.int .i64 d,.slice pa pk pc] (prB b a c st::prW a c st::h) m (fun _ _ h'=>PrR b h (D0 st (d,toks)) h'):=by
 subst he;refine CT.body Tryz.call41 Tryz.func41 rfl Tryz.ntmps41 Lb rfl ?_;refine kA1 ?_;refine xg (E1 Et) (a6B pa pk pc ps _ _ (hs.mono Vl Sb) (fun p hp=>(hps p hp).mono Vl Sb) hk hb) ?_;rintro _ _ ⟨a10,c10,_,rfl,rfl,rfl⟩;refine kR a10 fun p10 q10 r10=>?_
 refine xf (E1 Et) (b9L a10 _ c10 _ _ m hg hp (iR r10 p10 q10) hT) ?_;refine kQ5 [0,1,6,7] ?_;refine kA4 ?_;refine zG (fun hc=>PO.nilCheck (Eg hc)) ?_;refine kQ5 [0,1,6,23] ?_;refine wc (fun c23=>?_) fun c23=>?_
 have e23:D0 st (d,ps.flatMap (·.l))=(st.1,true):=by
  unfold D0;rw[if_pos];simp only[Bool.or_eq_true,bne_iff_ne,ne_eq,decide_eq_true_eq] at c23;exact c23.imp id fun q=>by omega
 refine kQ4 [] ?_;refine WC.ret (b4e (h':=prB b a c (st.1,true)::prW a c st::h) (.inl rfl) rfl  Vl Sb ?_);exact⟨a,c,by rw[e23]⟩;have e23:D0 st (d,ps.flatMap (·.l))=(st.1++[⟨st.1.length+1,d,(textO (ps.flatMap (·.l))).1⟩],st.2):=by
  unfold D0;rw[if_neg];intro q;have:(((textO (ps.flatMap (·.l))).2 != 0)||decide ((st.1.length:Int) > 2048))=true:=by
   simp only[Bool.or_eq_true,bne_iff_ne,ne_eq,decide_eq_true_eq];exact q.imp id fun q=>by omega
  rw[this] at c23;cases c23
 have hln:(st.1++[(⟨st.1.length+1,d,(textO (ps.flatMap (·.l))).1⟩:Rw)]).length=st.1.length+1:=List.length_append;refine kQ0 [0,1,6] ?_;refine H0 [14] (.op 0 (.op 1 (.op 2 (.op 3 (.op 4 (.op 5 (.op 6 (.op 7 (.op 8 (.op 9 (.op 10 (.op 11 (.op 12 (.op 13 (.op 14 .nil))))))))))))))) [15,16,17,18] _ [] F1 (fun _ _ _ _ _ h=>h) [0] (by kernel_rfl) ?_;refine kA9 ?_;refine yG rfl (a08 b7a Et) ?_;refine yG rfl (O7 Et Ek (by omega)) ?_;refine kA2 ?_;refine yG rfl (PO.build b3A rfl rfl rfl Eb (by exact rfl)) ?_;refine sB rfl a1w fun b41=>?_
 refine SR.nil rfl rfl ?_;refine xD a1w (Ev.tmp rfl) (Ev.tmp rfl) (show st.1.length+1=(st.1++[(⟨st.1.length+1,d,(textO (ps.flatMap (·.l))).1⟩:Rw)]).length by simp) (G9 (enc:=S9) _ (⟨st.1.length+1,d,(textO (ps.flatMap (·.l))).1⟩)) fun a42 c42=>?_
 refine kA3 ?_;refine WL.nil (w0 (prB b a42 c42 (st.1++[⟨st.1.length+1,d,(textO (ps.flatMap (·.l))).1⟩],st.2)::prW a42 c42 (st.1++[⟨st.1.length+1,d,(textO (ps.flatMap (·.l))).1⟩],st.2)::h) ?_);exact⟨a42,c42,by rw[e23]⟩
end
section
open Go.Eng Go.Pc Go.Sx Go
open Go.Xp hiding B D1
open Go.Ty (Ty Vr Tok eqT tyV L5 C0 C3 Y1 zeroK O9 E6 encV F2)
open Go.Lx (encB D7 textO)
open Go.Ly (Rw S9 F7)
theorem a4x {α:Type} (sep:B) (f:α->List Tok) (n:Nat):∀ (l:List α),(∀ x ∈ l,(f x).length<=n)->(B4 sep f l).length<=l.length * (n+1)
 | [],_=>Nat.zero_le _
 | [x],h=>by
  have:=h x (List.Mem.head _);show(f x).length<=1 * (n+1);omega
 | x::y::r,h=>by
  have h1:=h x (List.Mem.head _);have h2:=a4x sep f n (y::r) fun z hz=>h z (List.Mem.tail _ hz)
  show(f x++⟨5,0,sep,0⟩::B4 sep f (y::r)).length<=_;rw[List.length_append,List.length_cons];simp only[List.length_cons] at h2 ⊢;rw[Nat.add_mul (r.length+1) 1 (n+1)];omega
theorem a1r (sep:B) (l:List Ex) (h:l.length<=9):(B4 sep B5 l).length<=30000:=by
 have h1:=a4x sep B5 2000 l fun x _=>N6 x
 have h2:l.length * 2001<=9 * 2001:=Nat.mul_le_mul_right _ h;omega
theorem b1c (r:Rp):(Y9 r).length<=30000:=by
 unfold Y9;split
 ·exact Nat.zero_le _
 ·have h1:=N6 r.base
  have h2:=N6 r.count;simp only[List.length_append,List.length_singleton];omega
theorem a3d {m:View} (hg:Glob m) (b4:Nat) (p:Pr) (sep:B) (h:List Res) (hb:Res.pt b4 (.cells (prE p).toArray 52 (0,0)) ∈ h) (hL:LOk m h p.ex) (hE:p.ex.l.length<=9) :
 CT Tryz.prog 67 [str sep,ptV b4] h m (fun v _ h'=>OwT h (B4 sep B5 p.ex.l) v h'):=by
 refine CT.body Tryz.call67 Tryz.func67 rfl Tryz.ntmps67 Lb rfl ?_;refine kQ1 [0,1] ?_;refine kA1 ?_;refine xG (E5 c5M rfl Et hb rfl) ?_;refine kA1 ?_;refine xg (E3 Et Et Ef) (a4h 60 B5 sep _ _ _ p.ex.l _ hL.rd (by omega) (fun x _=>Nat.le_trans (N6 x) (by decide)) (fun x hx h2 hh=>M2 hg x h2 ((hL.ok x hx).mono hh))) ?_;rintro _ _ ⟨a7,c7,_,rfl,rfl,rfl⟩;refine kQ1 [3] ?_;refine wT (.row (.slice a7 (B4 sep B5 p.ex.l).length c7) 106 4 (B4 sep B5 p.ex.l).length (fl C0 (B4 sep B5 p.ex.l))::h) ?_;exact⟨_,_,_,rfl,rfl,rfl⟩
set_option maxHeartbeats 4000000 in
theorem c1J {m:View} (hg:Glob m) (hp:Pow m) (p:Pr) (b:Nat) (a:Option Addr) (c:Nat) (st:Ps) (d:Int) (h:List Res) (hO:P1 m h p) (hTg:p.tg.l.length<=9) (hEx:p.ex.l.length<=9) (hk:1<=p.k/\p.k<=17) (hT:TkL (A3 p.k p.name p.ch p.tg.l p.ex.l p.rep)) (hn:st.1.length<=2049) :
 CT Tryz.prog 40 [ptV b,prV p,.int .i64 d] (prB b a c st::prW a c st::h) m (fun _ _ h'=>PrR b h (D0 st (d,A3 p.k p.name p.ch p.tg.l p.ex.l p.rep)) h'):=by
 refine CT.body Tryz.call40 Tryz.func40 rfl Tryz.ntmps40 Lb rfl ?_;refine j0 ?_;refine xX fun b4=>?_
 refine kQ0 [0,2,4] ?_;refine kA2 ?_;refine xg (E1 Et) (c6w hg p.rep _ (Rs.mono (h:=h) ⟨hO.rn,hO.rb,hO.rc⟩ Sb)) ?_;rintro _ _ ⟨a10,c10,_,rfl,rfl,rfl⟩;refine kQ1 [0,2,4,6] ?_;refine xG (PO.makeFunc Evs.nil (E1 Et)) ?_;refine kQ1 [0,2,4,6,7] ?_;refine kQ2 [0,2,4,6,7,13] ?_;refine kQ2 [0,2,4,6,7,13,14] ?_;refine wc (fun c14=>?_) fun c14=>?_
 replace c14:=H7 c14;have e9:=A3.eq_1 p.k p.name p.ch p.tg.l p.ex.l p.rep;rw[if_pos c14] at e9;refine kA2 ?_;refine xY Q7 Eb fun b18=>?_
 refine xg (E1 Et) (C9 hg _ 1 _ [[83,75,73,80]] _ Rr (by decide) (by decide)) ?_;rintro _ _ ⟨a19,c19,_,rfl,rfl,rfl⟩;refine xY O3 Eb fun b20=>?_
 refine kR a19 fun p19 q19 r19=>?_
 refine WL.perm ((Del.perm (r:=prB b a c st) De).trans ((Del.perm (r:=prW a c st) De).cons _)) ?_;refine xg (E3 Et Et Et) (I2 hg hp b a c st d _ 1 _ [⟨a19,c19,[A2 [83,75,73,80]]⟩] (A3 p.k p.name p.ch p.tg.l p.ex.l p.rep) _ (Rd.ofPt rfl (by decide) Me) (C2 (iR r19 p19 q19) K3) (by decide) (C2 (by simp) K3) (by rw[e9];simp) (hT) hn) ?_;rintro _ _ ⟨a21,c21,rfl⟩;refine WL.nil (w0 (prB b a21 c21 (D0 st (d,A3 p.k p.name p.ch p.tg.l p.ex.l p.rep))::prW a21 c21 (D0 st (d,A3 p.k p.name p.ch p.tg.l p.ex.l p.rep))::h) ?_);exact⟨a21,c21,rfl⟩;replace c14:=H5 c14;refine kQ2 [0,2,4,6,7,13,22] ?_;refine wc (fun c22=>?_) fun c22=>?_
 replace c22:=H7 c22;have e9:=A3.eq_1 p.k p.name p.ch p.tg.l p.ex.l p.rep;rw[if_neg c14,if_pos c22] at e9;refine kA2 ?_;refine xY Q7 Eb fun b26=>?_
 refine xg (E1 Et) (C9 hg _ 1 _ [[83,84,79,80]] _ Rr (by decide) (by decide)) ?_;rintro _ _ ⟨a27,c27,_,rfl,rfl,rfl⟩;refine xY O3 Eb fun b28=>?_
 refine kR a27 fun p27 q27 r27=>?_
 refine WL.perm ((Del.perm (r:=prB b a c st) De).trans ((Del.perm (r:=prW a c st) De).cons _)) ?_;refine xg (E3 Et Et Et) (I2 hg hp b a c st d _ 1 _ [⟨a27,c27,[A2 [83,84,79,80]]⟩] (A3 p.k p.name p.ch p.tg.l p.ex.l p.rep) _ (Rd.ofPt rfl (by decide) Me) (C2 (iR r27 p27 q27) K3) (by decide) (C2 (by simp) K3) (by rw[e9];simp) (hT) hn) ?_;rintro _ _ ⟨a29,c29,rfl⟩;refine WL.nil (w0 (prB b a29 c29 (D0 st (d,A3 p.k p.name p.ch p.tg.l p.ex.l p.rep))::prW a29 c29 (D0 st (d,A3 p.k p.name p.ch p.tg.l p.ex.l p.rep))::h) ?_);exact⟨a29,c29,rfl⟩;replace c22:=H5 c22;refine kQ2 [0,2,4,6,7,13,30] ?_;refine wc (fun c30=>?_) fun c30=>?_
 replace c30:=H7 c30;have e9:=A3.eq_1 p.k p.name p.ch p.tg.l p.ex.l p.rep;rw[if_neg c14,if_neg c22,if_pos c30] at e9;refine kA4 ?_;refine xg (E3 Et Ek Ef) (a4h 60 B5 [44] _ _ _ p.tg.l _ (hO.tg.rd.mono Vl Sb) (by omega) (fun x _=>Nat.le_trans (N6 x) (by decide)) (fun x hx h2 hh=>M2 hg x h2 ((hO.tg.ok x hx).mono (List.Sublist.trans Sb hh)))) ?_;rintro _ _ ⟨a36,c36,_,rfl,rfl,rfl⟩;refine xY Q7 Eb fun b37=>?_
 refine xg (E1 Et) (C9 hg _ 1 _ [[58,61]] _ Rr (by decide) (by decide)) ?_;rintro _ _ ⟨a38,c38,_,rfl,rfl,rfl⟩;refine kA1 ?_;refine H1 (Ev.tmp rfl) (E1 Ek) (a3d hg b4 p [44] _ Me (hO.ex.mono Sb) hEx) Lb ?_;rintro _ _ ⟨a40,c40,_,rfl,rfl,rfl⟩;refine xY O3 Eb fun b41=>?_
 refine kR a36 fun p36 q36 r36=>?_
 refine kR a38 fun p38 q38 r38=>?_
 refine kR a40 fun p40 q40 r40=>?_
 refine WL.perm ((Del.perm (r:=prB b a c st) De).trans ((Del.perm (r:=prW a c st) De).cons _)) ?_;refine xg (E3 Et Et Et) (I2 hg hp b a c st d _ 3 _ [⟨a36,c36,B4 [44] B5 p.tg.l⟩,⟨a38,c38,[A2 [58,61]]⟩,⟨a40,c40,B4 [44] B5 p.ex.l⟩] (A3 p.k p.name p.ch p.tg.l p.ex.l p.rep) _ (Rd.ofPt rfl (by decide) Me) (C2 (iR r36 p36 q36) (C2 (iR r38 p38 q38) (C2 (iR r40 p40 q40) K3))) (by decide) (C2 (a1r [44] p.tg.l (by omega)) (C2 (by simp) (C2 (a1r [44] p.ex.l (by omega)) K3))) (by rw[e9];simp) (hT) hn) ?_;rintro _ _ ⟨a42,c42,rfl⟩;refine WL.nil (w0 (prB b a42 c42 (D0 st (d,A3 p.k p.name p.ch p.tg.l p.ex.l p.rep))::prW a42 c42 (D0 st (d,A3 p.k p.name p.ch p.tg.l p.ex.l p.rep))::h) ?_);exact⟨a42,c42,rfl⟩;replace c30:=H5 c30;refine kQ2 [0,2,4,6,7,13,43] ?_;refine wc (fun c43=>?_) fun c43=>?_
 replace c43:=H7 c43;have e9:=A3.eq_1 p.k p.name p.ch p.tg.l p.ex.l p.rep;rw[if_neg c14,if_neg c22,if_neg c30,if_pos c43] at e9;refine jE ?_;refine a1j [4,5,6,4096] (.op 0 (.op 1 (.op 2 (.op 3 (.op 7 (.op 8 (.op 4 (.op 5 (.op 6 .nil))))))))) [9,10,11] _ [] F1 (fun _ _ _ h=>a2N h) [0,1] (by kernel_rfl) ?_;refine kA6 ?_;refine J2 rfl rfl Ef (E1 Et) (fun fr=>M2 hg p.ch _ (hO.ch.mono Sb)) Lb fun a49 c49=>?_
 refine sB rfl Q7 fun b50=>?_
 refine J2 rfl rfl Ef (E1 (Ev.tmp rfl)) (fun fr=>C9 hg _ 1 _ [[63]] _ (Rd.fr Rr fr) (by decide) (by decide)) Lb fun a51 c51=>?_
 refine SR.nil rfl rfl ?_;refine xg (E3 Et Ek Ef) (a4h 60 B5 [59] _ _ _ p.tg.l _ (hO.tg.rd.mono Vl Sb) (by omega) (fun x _=>Nat.le_trans (N6 x) (by decide)) (fun x hx h2 hh=>M2 hg x h2 ((hO.tg.ok x hx).mono (List.Sublist.trans Sb hh)))) ?_;rintro _ _ ⟨a54,c54,_,rfl,rfl,rfl⟩;refine xY O3 Eb fun b55=>?_
 refine kR a49 fun p49 q49 r49=>?_
 refine kR a51 fun p51 q51 r51=>?_
 refine kR a54 fun p54 q54 r54=>?_
 refine WL.perm ((Del.perm (r:=prB b a c st) De).trans ((Del.perm (r:=prW a c st) De).cons _)) ?_;refine xg (E3 Et Et Et) (I2 hg hp b a c st d _ 3 _ [⟨a49,c49,B5 p.ch⟩,⟨a51,c51,[A2 [63]]⟩,⟨a54,c54,B4 [59] B5 p.tg.l⟩] (A3 p.k p.name p.ch p.tg.l p.ex.l p.rep) _ (Rd.ofPt rfl (by decide) Me) (C2 (iR r49 p49 q49) (C2 (iR r51 p51 q51) (C2 (iR r54 p54 q54) K3))) (by decide) (C2 (Nat.le_trans (N6 _) (by decide)) (C2 (by simp) (C2 (a1r [59] p.tg.l (by omega)) K3))) (by rw[e9];simp) (hT) hn) ?_;rintro _ _ ⟨a56,c56,rfl⟩;refine WL.nil (w0 (prB b a56 c56 (D0 st (d,A3 p.k p.name p.ch p.tg.l p.ex.l p.rep))::prW a56 c56 (D0 st (d,A3 p.k p.name p.ch p.tg.l p.ex.l p.rep))::h) ?_);exact⟨a56,c56,rfl⟩;replace c43:=H5 c43;refine kQ2 [0,2,4,6,7,13,57] ?_;refine wc (fun c57=>?_) fun c57=>?_
 replace c57:=H7 c57;have e9:=A3.eq_1 p.k p.name p.ch p.tg.l p.ex.l p.rep;rw[if_neg c14,if_neg c22,if_neg c30,if_neg c43,if_pos c57] at e9;refine kA4 ?_;refine xg (E1 Et) (M2 hg p.ch _ (hO.ch.mono Sb)) ?_;rintro _ _ ⟨a63,c63,_,rfl,rfl,rfl⟩;refine xY Q7 Eb fun b64=>?_
 refine xg (E1 Et) (C9 hg _ 1 _ [[33]] _ Rr (by decide) (by decide)) ?_;rintro _ _ ⟨a65,c65,_,rfl,rfl,rfl⟩;refine kA1 ?_;refine H1 (Ev.tmp rfl) (E1 Ek) (a3d hg b4 p [59] _ Me (hO.ex.mono Sb) hEx) Lb ?_;rintro _ _ ⟨a67,c67,_,rfl,rfl,rfl⟩;refine xY O3 Eb fun b68=>?_
 refine kR a63 fun p63 q63 r63=>?_
 refine kR a65 fun p65 q65 r65=>?_
 refine kR a67 fun p67 q67 r67=>?_
 refine WL.perm ((Del.perm (r:=prB b a c st) De).trans ((Del.perm (r:=prW a c st) De).cons _)) ?_;refine xg (E3 Et Et Et) (I2 hg hp b a c st d _ 3 _ [⟨a63,c63,B5 p.ch⟩,⟨a65,c65,[A2 [33]]⟩,⟨a67,c67,B4 [59] B5 p.ex.l⟩] (A3 p.k p.name p.ch p.tg.l p.ex.l p.rep) _ (Rd.ofPt rfl (by decide) Me) (C2 (iR r63 p63 q63) (C2 (iR r65 p65 q65) (C2 (iR r67 p67 q67) K3))) (by decide) (C2 (Nat.le_trans (N6 _) (by decide)) (C2 (by simp) (C2 (a1r [59] p.ex.l (by omega)) K3))) (by rw[e9];simp) (hT) hn) ?_;rintro _ _ ⟨a69,c69,rfl⟩;refine WL.nil (w0 (prB b a69 c69 (D0 st (d,A3 p.k p.name p.ch p.tg.l p.ex.l p.rep))::prW a69 c69 (D0 st (d,A3 p.k p.name p.ch p.tg.l p.ex.l p.rep))::h) ?_);exact⟨a69,c69,rfl⟩;replace c57:=H5 c57;refine kQ2 [0,2,4,6,7,13,70] ?_;refine wc (fun c70=>?_) fun c70=>?_
 replace c70:=H7 c70;have e9:=A3.eq_1 p.k p.name p.ch p.tg.l p.ex.l p.rep;rw[if_neg c14,if_neg c22,if_neg c30,if_neg c43,if_neg c57,if_pos c70] at e9;refine kA4 ?_;refine xg (E1 Et) (M2 hg p.ch _ (hO.ch.mono Sb)) ?_;rintro _ _ ⟨a76,c76,_,rfl,rfl,rfl⟩;refine xY Q7 Eb fun b77=>?_
 refine xg (E1 Et) (C9 hg _ 2 _ [[63],[65,70,84,69,82]] _ Rr (by decide) (by decide)) ?_;rintro _ _ ⟨a78,c78,_,rfl,rfl,rfl⟩;refine kA1 ?_;refine H1 (Ev.tmp rfl) (E1 Ek) (a3d hg b4 p [] _ Me (hO.ex.mono Sb) hEx) Lb ?_;rintro _ _ ⟨a80,c80,_,rfl,rfl,rfl⟩;refine xY O3 Eb fun b81=>?_
 refine kR a76 fun p76 q76 r76=>?_
 refine kR a78 fun p78 q78 r78=>?_
 refine kR a80 fun p80 q80 r80=>?_
 refine WL.perm ((Del.perm (r:=prB b a c st) De).trans ((Del.perm (r:=prW a c st) De).cons _)) ?_;refine xg (E3 Et Et Et) (I2 hg hp b a c st d _ 3 _ [⟨a76,c76,B5 p.ch⟩,⟨a78,c78,[A2 [63],A2 [65,70,84,69,82]]⟩,⟨a80,c80,B4 [] B5 p.ex.l⟩] (A3 p.k p.name p.ch p.tg.l p.ex.l p.rep) _ (Rd.ofPt rfl (by decide) Me) (C2 (iR r76 p76 q76) (C2 (iR r78 p78 q78) (C2 (iR r80 p80 q80) K3))) (by decide) (C2 (Nat.le_trans (N6 _) (by decide)) (C2 (by simp) (C2 (a1r [] p.ex.l (by omega)) K3))) (by rw[e9];simp) (hT) hn) ?_;rintro _ _ ⟨a82,c82,rfl⟩;refine WL.nil (w0 (prB b a82 c82 (D0 st (d,A3 p.k p.name p.ch p.tg.l p.ex.l p.rep))::prW a82 c82 (D0 st (d,A3 p.k p.name p.ch p.tg.l p.ex.l p.rep))::h) ?_);exact⟨a82,c82,rfl⟩;replace c70:=H5 c70;refine kQ2 [0,2,4,6,7,13,83] ?_;refine wc (fun c83=>?_) fun c83=>?_
 replace c83:=H7 c83;have e9:=A3.eq_1 p.k p.name p.ch p.tg.l p.ex.l p.rep;rw[if_neg c14,if_neg c22,if_neg c30,if_neg c43,if_neg c57,if_neg c70,if_pos c83] at e9;refine kA4 ?_;refine xg (E1 Et) (M2 hg p.ch _ (hO.ch.mono Sb)) ?_;rintro _ _ ⟨a89,c89,_,rfl,rfl,rfl⟩;refine xY Q7 Eb fun b90=>?_
 refine xg (E1 Et) (C9 hg _ 2 _ [[63],[67,65,83,69]] _ Rr (by decide) (by decide)) ?_;rintro _ _ ⟨a91,c91,_,rfl,rfl,rfl⟩;refine xY O3 Eb fun b92=>?_
 refine kR a89 fun p89 q89 r89=>?_
 refine kR a91 fun p91 q91 r91=>?_
 refine WL.perm ((Del.perm (r:=prB b a c st) De).trans ((Del.perm (r:=prW a c st) De).cons _)) ?_;refine xg (E3 Et Et Et) (I2 hg hp b a c st d _ 2 _ [⟨a89,c89,B5 p.ch⟩,⟨a91,c91,[A2 [63],A2 [67,65,83,69]]⟩] (A3 p.k p.name p.ch p.tg.l p.ex.l p.rep) _ (Rd.ofPt rfl (by decide) Me) (C2 (iR r89 p89 q89) (C2 (iR r91 p91 q91) K3)) (by decide) (C2 (Nat.le_trans (N6 _) (by decide)) (C2 (by simp) K3)) (by rw[e9];simp) (hT) hn) ?_;rintro _ _ ⟨a93,c93,rfl⟩;refine WL.nil (w0 (prB b a93 c93 (D0 st (d,A3 p.k p.name p.ch p.tg.l p.ex.l p.rep))::prW a93 c93 (D0 st (d,A3 p.k p.name p.ch p.tg.l p.ex.l p.rep))::h) ?_);exact⟨a93,c93,rfl⟩;replace c83:=H5 c83;refine kQ2 [0,2,4,6,7,13,94] ?_;refine wc (fun c94=>?_) fun c94=>?_
 replace c94:=H7 c94;have e9:=A3.eq_1 p.k p.name p.ch p.tg.l p.ex.l p.rep;rw[if_neg c14,if_neg c22,if_neg c30,if_neg c43,if_neg c57,if_neg c70,if_neg c83,if_pos c94] at e9;refine kA2 ?_;refine xY Q7 Eb fun b98=>?_
 refine xg (E1 Et) (C9 hg _ 1 _ [[83,69,81]] _ Rr (by decide) (by decide)) ?_;rintro _ _ ⟨a99,c99,_,rfl,rfl,rfl⟩;refine kA1 ?_;refine xY O3 Eb fun b101=>?_
 refine kR a99 fun p99 q99 r99=>?_
 refine kR a10 fun p10 q10 r10=>?_
 refine WL.perm ((Del.perm (r:=prB b a c st) De).trans ((Del.perm (r:=prW a c st) De).cons _)) ?_;refine xg (E3 Et Et Et) (I2 hg hp b a c st d _ 2 _ [⟨a99,c99,[A2 [83,69,81]]⟩,⟨a10,c10,Y9 p.rep⟩] (A3 p.k p.name p.ch p.tg.l p.ex.l p.rep) _ (Rd.ofPt rfl (by decide) Me) (C2 (iR r99 p99 q99) (C2 (iR r10 p10 q10) K3)) (by decide) (C2 (by simp) (C2 (b1c p.rep) K3)) (by rw[e9];simp) (hT) hn) ?_;rintro _ _ ⟨a102,c102,rfl⟩;refine WL.nil (w0 (prB b a102 c102 (D0 st (d,A3 p.k p.name p.ch p.tg.l p.ex.l p.rep))::prW a102 c102 (D0 st (d,A3 p.k p.name p.ch p.tg.l p.ex.l p.rep))::h) ?_);exact⟨a102,c102,rfl⟩;replace c94:=H5 c94;refine kQ2 [0,2,4,6,7,13,103] ?_;refine wc (fun c103=>?_) fun c103=>?_
 replace c103:=H7 c103;have e9:=A3.eq_1 p.k p.name p.ch p.tg.l p.ex.l p.rep;rw[if_neg c14,if_neg c22,if_neg c30,if_neg c43,if_neg c57,if_neg c70,if_neg c83,if_neg c94,if_pos c103] at e9;refine kA2 ?_;refine xY Q7 Eb fun b107=>?_
 refine xg (E1 Et) (C9 hg _ 1 _ [[80,65,82]] _ Rr (by decide) (by decide)) ?_;rintro _ _ ⟨a108,c108,_,rfl,rfl,rfl⟩;refine kA1 ?_;refine xY O3 Eb fun b110=>?_
 refine kR a108 fun p108 q108 r108=>?_
 refine kR a10 fun p10 q10 r10=>?_
 refine WL.perm ((Del.perm (r:=prB b a c st) De).trans ((Del.perm (r:=prW a c st) De).cons _)) ?_;refine xg (E3 Et Et Et) (I2 hg hp b a c st d _ 2 _ [⟨a108,c108,[A2 [80,65,82]]⟩,⟨a10,c10,Y9 p.rep⟩] (A3 p.k p.name p.ch p.tg.l p.ex.l p.rep) _ (Rd.ofPt rfl (by decide) Me) (C2 (iR r108 p108 q108) (C2 (iR r10 p10 q10) K3)) (by decide) (C2 (by simp) (C2 (b1c p.rep) K3)) (by rw[e9];simp) (hT) hn) ?_;rintro _ _ ⟨a111,c111,rfl⟩;refine WL.nil (w0 (prB b a111 c111 (D0 st (d,A3 p.k p.name p.ch p.tg.l p.ex.l p.rep))::prW a111 c111 (D0 st (d,A3 p.k p.name p.ch p.tg.l p.ex.l p.rep))::h) ?_);exact⟨a111,c111,rfl⟩;replace c103:=H5 c103;refine kQ2 [0,2,4,6,7,13,112] ?_;refine wc (fun c112=>?_) fun c112=>?_
 replace c112:=H7 c112;have e9:=A3.eq_1 p.k p.name p.ch p.tg.l p.ex.l p.rep;rw[if_neg c14,if_neg c22,if_neg c30,if_neg c43,if_neg c57,if_neg c70,if_neg c83,if_neg c94,if_neg c103,if_pos c112] at e9;refine kA2 ?_;refine xY Q7 Eb fun b116=>?_
 refine xg (E1 Et) (C9 hg _ 2 _ [[80,82,73],[80,65,82]] _ Rr (by decide) (by decide)) ?_;rintro _ _ ⟨a117,c117,_,rfl,rfl,rfl⟩;refine xY O3 Eb fun b118=>?_
 refine kR a117 fun p117 q117 r117=>?_
 refine WL.perm ((Del.perm (r:=prB b a c st) De).trans ((Del.perm (r:=prW a c st) De).cons _)) ?_;refine xg (E3 Et Et Et) (I2 hg hp b a c st d _ 1 _ [⟨a117,c117,[A2 [80,82,73],A2 [80,65,82]]⟩] (A3 p.k p.name p.ch p.tg.l p.ex.l p.rep) _ (Rd.ofPt rfl (by decide) Me) (C2 (iR r117 p117 q117) K3) (by decide) (C2 (by simp) K3) (by rw[e9];simp) (hT) hn) ?_;rintro _ _ ⟨a119,c119,rfl⟩;refine WL.nil (w0 (prB b a119 c119 (D0 st (d,A3 p.k p.name p.ch p.tg.l p.ex.l p.rep))::prW a119 c119 (D0 st (d,A3 p.k p.name p.ch p.tg.l p.ex.l p.rep))::h) ?_);exact⟨a119,c119,rfl⟩;replace c112:=H5 c112;refine kQ2 [0,2,4,6,7,13,120] ?_;refine wc (fun c120=>?_) fun c120=>?_
 replace c120:=H7 c120;have e9:=A3.eq_1 p.k p.name p.ch p.tg.l p.ex.l p.rep;rw[if_neg c14,if_neg c22,if_neg c30,if_neg c43,if_neg c57,if_neg c70,if_neg c83,if_neg c94,if_neg c103,if_neg c112,if_pos c120] at e9;refine kA2 ?_;refine xY Q7 Eb fun b124=>?_
 refine xg (E1 Et) (C9 hg _ 2 _ [[80,76,65,67,69,68],[80,65,82]] _ Rr (by decide) (by decide)) ?_;rintro _ _ ⟨a125,c125,_,rfl,rfl,rfl⟩;refine xY O3 Eb fun b126=>?_
 refine kR a125 fun p125 q125 r125=>?_
 refine WL.perm ((Del.perm (r:=prB b a c st) De).trans ((Del.perm (r:=prW a c st) De).cons _)) ?_;refine xg (E3 Et Et Et) (I2 hg hp b a c st d _ 1 _ [⟨a125,c125,[A2 [80,76,65,67,69,68],A2 [80,65,82]]⟩] (A3 p.k p.name p.ch p.tg.l p.ex.l p.rep) _ (Rd.ofPt rfl (by decide) Me) (C2 (iR r125 p125 q125) K3) (by decide) (C2 (by simp) K3) (by rw[e9];simp) (hT) hn) ?_;rintro _ _ ⟨a127,c127,rfl⟩;refine WL.nil (w0 (prB b a127 c127 (D0 st (d,A3 p.k p.name p.ch p.tg.l p.ex.l p.rep))::prW a127 c127 (D0 st (d,A3 p.k p.name p.ch p.tg.l p.ex.l p.rep))::h) ?_);exact⟨a127,c127,rfl⟩;replace c120:=H5 c120;refine kQ2 [0,2,4,6,7,13,128] ?_;refine wc (fun c128=>?_) fun c128=>?_
 replace c128:=H7 c128;have e9:=A3.eq_1 p.k p.name p.ch p.tg.l p.ex.l p.rep;rw[if_neg c14,if_neg c22,if_neg c30,if_neg c43,if_neg c57,if_neg c70,if_neg c83,if_neg c94,if_neg c103,if_neg c112,if_neg c120,if_pos c128] at e9;refine kA2 ?_;refine xY Q7 Eb fun b132=>?_
 refine xg (E1 Et) (C9 hg _ 1 _ [[65,76,84]] _ Rr (by decide) (by decide)) ?_;rintro _ _ ⟨a133,c133,_,rfl,rfl,rfl⟩;refine kA1 ?_;refine xY O3 Eb fun b135=>?_
 refine kR a133 fun p133 q133 r133=>?_
 refine kR a10 fun p10 q10 r10=>?_
 refine WL.perm ((Del.perm (r:=prB b a c st) De).trans ((Del.perm (r:=prW a c st) De).cons _)) ?_;refine xg (E3 Et Et Et) (I2 hg hp b a c st d _ 2 _ [⟨a133,c133,[A2 [65,76,84]]⟩,⟨a10,c10,Y9 p.rep⟩] (A3 p.k p.name p.ch p.tg.l p.ex.l p.rep) _ (Rd.ofPt rfl (by decide) Me) (C2 (iR r133 p133 q133) (C2 (iR r10 p10 q10) K3)) (by decide) (C2 (by simp) (C2 (b1c p.rep) K3)) (by rw[e9];simp) (hT) hn) ?_;rintro _ _ ⟨a136,c136,rfl⟩;refine WL.nil (w0 (prB b a136 c136 (D0 st (d,A3 p.k p.name p.ch p.tg.l p.ex.l p.rep))::prW a136 c136 (D0 st (d,A3 p.k p.name p.ch p.tg.l p.ex.l p.rep))::h) ?_);exact⟨a136,c136,rfl⟩;replace c128:=H5 c128;refine kQ2 [0,2,4,6,7,13,137] ?_;refine wc (fun c137=>?_) fun c137=>?_
 replace c137:=H7 c137;have e9:=A3.eq_1 p.k p.name p.ch p.tg.l p.ex.l p.rep;rw[if_neg c14,if_neg c22,if_neg c30,if_neg c43,if_neg c57,if_neg c70,if_neg c83,if_neg c94,if_neg c103,if_neg c112,if_neg c120,if_neg c128,if_pos c137] at e9;refine kA2 ?_;refine xY Q7 Eb fun b141=>?_
 refine xg (E1 Et) (C9 hg _ 2 _ [[80,82,73],[65,76,84]] _ Rr (by decide) (by decide)) ?_;rintro _ _ ⟨a142,c142,_,rfl,rfl,rfl⟩;refine kA1 ?_;refine xY O3 Eb fun b144=>?_
 refine kR a142 fun p142 q142 r142=>?_
 refine kR a10 fun p10 q10 r10=>?_
 refine WL.perm ((Del.perm (r:=prB b a c st) De).trans ((Del.perm (r:=prW a c st) De).cons _)) ?_;refine xg (E3 Et Et Et) (I2 hg hp b a c st d _ 2 _ [⟨a142,c142,[A2 [80,82,73],A2 [65,76,84]]⟩,⟨a10,c10,Y9 p.rep⟩] (A3 p.k p.name p.ch p.tg.l p.ex.l p.rep) _ (Rd.ofPt rfl (by decide) Me) (C2 (iR r142 p142 q142) (C2 (iR r10 p10 q10) K3)) (by decide) (C2 (by simp) (C2 (b1c p.rep) K3)) (by rw[e9];simp) (hT) hn) ?_;rintro _ _ ⟨a145,c145,rfl⟩;refine WL.nil (w0 (prB b a145 c145 (D0 st (d,A3 p.k p.name p.ch p.tg.l p.ex.l p.rep))::prW a145 c145 (D0 st (d,A3 p.k p.name p.ch p.tg.l p.ex.l p.rep))::h) ?_);exact⟨a145,c145,rfl⟩;replace c137:=H5 c137;refine kQ2 [0,2,4,6,7,13,146] ?_;refine wc (fun c146=>?_) fun c146=>?_
 replace c146:=H7 c146;have e9:=A3.eq_1 p.k p.name p.ch p.tg.l p.ex.l p.rep;rw[if_neg c14,if_neg c22,if_neg c30,if_neg c43,if_neg c57,if_neg c70,if_neg c83,if_neg c94,if_neg c103,if_neg c112,if_neg c120,if_neg c128,if_neg c137,if_pos c146] at e9;refine kA2 ?_;refine xY Q7 Eb fun b150=>?_
 refine xg (E1 Et) (C9 hg _ 1 _ [[73,70]] _ Rr (by decide) (by decide)) ?_;rintro _ _ ⟨a151,c151,_,rfl,rfl,rfl⟩;refine kA1 ?_;refine xY O3 Eb fun b153=>?_
 refine kR a151 fun p151 q151 r151=>?_
 refine kR a10 fun p10 q10 r10=>?_
 refine WL.perm ((Del.perm (r:=prB b a c st) De).trans ((Del.perm (r:=prW a c st) De).cons _)) ?_;refine xg (E3 Et Et Et) (I2 hg hp b a c st d _ 2 _ [⟨a151,c151,[A2 [73,70]]⟩,⟨a10,c10,Y9 p.rep⟩] (A3 p.k p.name p.ch p.tg.l p.ex.l p.rep) _ (Rd.ofPt rfl (by decide) Me) (C2 (iR r151 p151 q151) (C2 (iR r10 p10 q10) K3)) (by decide) (C2 (by simp) (C2 (b1c p.rep) K3)) (by rw[e9];simp) (hT) hn) ?_;rintro _ _ ⟨a154,c154,rfl⟩;refine WL.nil (w0 (prB b a154 c154 (D0 st (d,A3 p.k p.name p.ch p.tg.l p.ex.l p.rep))::prW a154 c154 (D0 st (d,A3 p.k p.name p.ch p.tg.l p.ex.l p.rep))::h) ?_);exact⟨a154,c154,rfl⟩;replace c146:=H5 c146;refine kQ2 [0,2,4,7,13,155] ?_;refine wc (fun c155=>?_) fun c155=>?_
 replace c155:=H7 c155;have e9:=A3.eq_1 p.k p.name p.ch p.tg.l p.ex.l p.rep;rw[if_neg c14,if_neg c22,if_neg c30,if_neg c43,if_neg c57,if_neg c70,if_neg c83,if_neg c94,if_neg c103,if_neg c112,if_neg c120,if_neg c128,if_neg c137,if_neg c146,if_pos c155] at e9;refine kA2 ?_;refine xY Q7 Eb fun b159=>?_
 refine xg (E1 Et) (C9 hg _ 1 _ [[67,65,83,69]] _ Rr (by decide) (by decide)) ?_;rintro _ _ ⟨a160,c160,_,rfl,rfl,rfl⟩;refine kA1 ?_;refine H1 (Ev.tmp rfl) (E1 Ek) (a3d hg b4 p [] _ Me (hO.ex.mono Sb) hEx) Lb ?_;rintro _ _ ⟨a162,c162,_,rfl,rfl,rfl⟩;refine xY O3 Eb fun b163=>?_
 refine kR a160 fun p160 q160 r160=>?_
 refine kR a162 fun p162 q162 r162=>?_
 refine WL.perm ((Del.perm (r:=prB b a c st) De).trans ((Del.perm (r:=prW a c st) De).cons _)) ?_;refine xg (E3 Et Et Et) (I2 hg hp b a c st d _ 2 _ [⟨a160,c160,[A2 [67,65,83,69]]⟩,⟨a162,c162,B4 [] B5 p.ex.l⟩] (A3 p.k p.name p.ch p.tg.l p.ex.l p.rep) _ (Rd.ofPt rfl (by decide) Me) (C2 (iR r160 p160 q160) (C2 (iR r162 p162 q162) K3)) (by decide) (C2 (by simp) (C2 (a1r [] p.ex.l (by omega)) K3)) (by rw[e9];simp) (hT) hn) ?_;rintro _ _ ⟨a164,c164,rfl⟩;refine WL.nil (w0 (prB b a164 c164 (D0 st (d,A3 p.k p.name p.ch p.tg.l p.ex.l p.rep))::prW a164 c164 (D0 st (d,A3 p.k p.name p.ch p.tg.l p.ex.l p.rep))::h) ?_);exact⟨a164,c164,rfl⟩;replace c155:=H5 c155;refine kQ2 [0,2,4,7,13,165] ?_;refine wc (fun c165=>?_) fun c165=>?_
 replace c165:=H7 c165;have e9:=A3.eq_1 p.k p.name p.ch p.tg.l p.ex.l p.rep;rw[if_neg c14,if_neg c22,if_neg c30,if_neg c43,if_neg c57,if_neg c70,if_neg c83,if_neg c94,if_neg c103,if_neg c112,if_neg c120,if_neg c128,if_neg c137,if_neg c146,if_neg c155,if_pos c165] at e9;refine kA2 ?_;refine xY Q7 Eb fun b169=>?_
 refine xg (E1 Et) (C9 hg _ 1 _ [[87,72,73,76,69]] _ Rr (by decide) (by decide)) ?_;rintro _ _ ⟨a170,c170,_,rfl,rfl,rfl⟩;refine kA1 ?_;refine H1 (Ev.tmp rfl) (E1 Ek) (a3d hg b4 p [] _ Me (hO.ex.mono Sb) hEx) Lb ?_;rintro _ _ ⟨a172,c172,_,rfl,rfl,rfl⟩;refine xY O3 Eb fun b173=>?_
 refine kR a170 fun p170 q170 r170=>?_
 refine kR a172 fun p172 q172 r172=>?_
 refine WL.perm ((Del.perm (r:=prB b a c st) De).trans ((Del.perm (r:=prW a c st) De).cons _)) ?_;refine xg (E3 Et Et Et) (I2 hg hp b a c st d _ 2 _ [⟨a170,c170,[A2 [87,72,73,76,69]]⟩,⟨a172,c172,B4 [] B5 p.ex.l⟩] (A3 p.k p.name p.ch p.tg.l p.ex.l p.rep) _ (Rd.ofPt rfl (by decide) Me) (C2 (iR r170 p170 q170) (C2 (iR r172 p172 q172) K3)) (by decide) (C2 (by simp) (C2 (a1r [] p.ex.l (by omega)) K3)) (by rw[e9];simp) (hT) hn) ?_;rintro _ _ ⟨a174,c174,rfl⟩;refine WL.nil (w0 (prB b a174 c174 (D0 st (d,A3 p.k p.name p.ch p.tg.l p.ex.l p.rep))::prW a174 c174 (D0 st (d,A3 p.k p.name p.ch p.tg.l p.ex.l p.rep))::h) ?_);exact⟨a174,c174,rfl⟩;replace c165:=H5 c165;refine kQ2 [0,2,4,7,175] ?_;refine wc (fun c175=>?_) fun c175=>?_
 replace c175:=H7 c175;have e9:=A3.eq_1 p.k p.name p.ch p.tg.l p.ex.l p.rep;rw[if_neg c14,if_neg c22,if_neg c30,if_neg c43,if_neg c57,if_neg c70,if_neg c83,if_neg c94,if_neg c103,if_neg c112,if_neg c120,if_neg c128,if_neg c137,if_neg c146,if_neg c155,if_neg c165] at e9;refine kA4 ?_;refine xg (E1 Et) (a3n p.name _ _) ?_;rintro _ _ ⟨a181,c181,_,rfl,rfl,rfl⟩;refine xY Q7 Eb fun b182=>?_
 refine xg (E1 Et) (C9 hg _ 1 _ [[40]] _ Rr (by decide) (by decide)) ?_;rintro _ _ ⟨a183,c183,_,rfl,rfl,rfl⟩;refine kA1 ?_;refine H1 (Ev.tmp rfl) (E1 Ek) (a3d hg b4 p [44] _ Me (hO.ex.mono Sb) hEx) Lb ?_;rintro _ _ ⟨a185,c185,_,rfl,rfl,rfl⟩;refine xY Q7 Eb fun b186=>?_
 refine xg (E1 Et) (C9 hg _ 1 _ [[41]] _ Rr (by decide) (by decide)) ?_;rintro _ _ ⟨a187,c187,_,rfl,rfl,rfl⟩;refine xY O3 Eb fun b188=>?_
 refine kR a181 fun p181 q181 r181=>?_
 refine kR a183 fun p183 q183 r183=>?_
 refine kR a185 fun p185 q185 r185=>?_
 refine kR a187 fun p187 q187 r187=>?_
 refine WL.perm ((Del.perm (r:=prB b a c st) De).trans ((Del.perm (r:=prW a c st) De).cons _)) ?_;refine xg (E3 Et Et Et) (I2 hg hp b a c st d _ 4 _ [⟨a181,c181,[G4 p.name]⟩,⟨a183,c183,[A2 [40]]⟩,⟨a185,c185,B4 [44] B5 p.ex.l⟩,⟨a187,c187,[A2 [41]]⟩] (A3 p.k p.name p.ch p.tg.l p.ex.l p.rep) _ (Rd.ofPt rfl (by decide) Me) (C2 (iR r181 p181 q181) (C2 (iR r183 p183 q183) (C2 (iR r185 p185 q185) (C2 (iR r187 p187 q187) K3)))) (by decide) (C2 (by simp) (C2 (by simp) (C2 (a1r [44] p.ex.l (by omega)) (C2 (by simp) K3)))) (by rw[e9];simp) (hT) hn) ?_;rintro _ _ ⟨a189,c189,rfl⟩;refine WL.nil (w0 (prB b a189 c189 (D0 st (d,A3 p.k p.name p.ch p.tg.l p.ex.l p.rep))::prW a189 c189 (D0 st (d,A3 p.k p.name p.ch p.tg.l p.ex.l p.rep))::h) ?_);exact⟨a189,c189,rfl⟩;replace c175:=H5 c175;omega
end
section
open Go.Eng Go.Pc Go.Sx Go
open Go.Xp hiding B D1
open Go.Ty (Ty Vr Tok eqT tyV L5 C0 C3 Y1 zeroK O9 E6 encV F2 prL prV PrOk VOk mayPr hdV)
open Go.Lx (encB D7 textO)
open Go.Ly (Rw S9 F7)
theorem a2K:TkL []:=fun _ hx=>(List.not_mem_nil hx).elim
theorem I3 {a b:List Tok} (ha:TkL a) (hb:TkL b):TkL (a++b):=fun x hx=>(List.mem_append.1 hx).elim (ha x) (hb x)
theorem a9f {t:Tok} {b:List Tok} (ha:TkL [t]) (hb:TkL b):TkL (t::b):=fun x hx=>(List.mem_cons.1 hx).elim (fun e=>ha x (List.mem_singleton.2 e)) (hb x)
theorem a5h {k p:Int} {s:B} (h:s.length<=Big):TkL [⟨k,p.toNat,s,0⟩]:=fun x hx=>by
 rw[List.mem_singleton] at hx;subst hx;exact⟨(show(-2147483648:Int)<=0/\(0:Int)<=2147483647 by decide),h⟩
theorem a06 {s:B} (h:s.length<=Big):TkL [A2 s]:=by
 unfold A2;split
 ·exact a5h (p:=0) h
 ·exact a5h (p:=0) h
theorem b2U {s:B} (h:s.length<=Big):TkL [G4 s]:=a5h (p:=0) h
theorem a3G {m:View} {h:List Res} {e:Ex} (q:EOk m h e):TkL (B5 e):=by
 unfold B5;split
 ·rename_i hm
  exact fun x hx=>⟨(a4z e (a2u hm).1 q.w x hx).2,by have:=Go.Lx.may_len (a4z e (a2u hm).1 q.w x hx).1;omega⟩
 ·exact a2K
theorem b5k {α:Type} {sep:B} (hs:sep.length<=Big) {f:α->List Tok}:∀ {l:List α},(∀ x ∈ l,TkL (f x))->TkL (B4 sep f l)
 | [],_=>a2K
 | [x],h=>h x (List.Mem.head _)
 | x::_::_,h=>I3 (h x (List.Mem.head _)) (a9f (a5h (p:=0) hs) (b5k hs fun z hz=>h z (List.Mem.tail _ hz)))
theorem a3j {m:View} {h:List Res} {sep:B} (hs:sep.length<=Big) {s:Sli Ex} (q:LOk m h s):TkL (B4 sep B5 s.l):=b5k hs fun x hx=>a3G (q.ok x hx)
theorem c8b {s:B} (hs:s.length<=Big) {l:List Tok} (q:TkL l):TkL (a1n s l):=by
 unfold a1n;split
 ·exact a2K
 ·exact a9f (a06 hs) q
theorem d0u {m:View} {h:List Res} {r:Rp} (q:Rs m h r):TkL (Y9 r):=by
 unfold Y9;split
 ·exact a2K
 ·exact I3 (I3 (I3 (I3 (b2U q.n) (a06 (by decide))) (a3G q.b)) (a06 (by decide))) (a3G q.c)
theorem Q5 {c:Prop} [Decidable c] {a b:List Tok} (ha:TkL a) (hb:TkL b):TkL (if c then a else b):=by
 split
 ·exact ha
 ·exact hb
theorem c0h {m:View} {h:List Res} {p:Pr} (q:P1 m h p):TkL (A3 p.k p.name p.ch p.tg.l p.ex.l p.rep):=by
 have hr:TkL (Y9 p.rep):=d0u (m:=m) (h:=h) ⟨q.rn,q.rb,q.rc⟩;have w1:∀ {s:B},s.length<=1000->TkL [A2 s]:=fun h=>a06 (Nat.le_trans h (by decide))
 have w2:∀ {s t:B},s.length<=1000->t.length<=1000->TkL [A2 s,A2 t]:=fun h h2=>a9f (w1 h) (w1 h2)
 unfold A3;exact Q5 (w1 (by decide)) (Q5 (w1 (by decide)) (Q5 (I3 (I3 (a3j (by decide) q.tg) (w1 (by decide))) (a3j (by decide) q.ex)) (Q5 (I3 (I3 (a3G q.ch) (w1 (by decide))) (a3j (by decide) q.tg)) (Q5 (I3 (I3 (a3G q.ch) (w1 (by decide))) (a3j (by decide) q.ex)) (Q5 (I3 (I3 (a3G q.ch) (w2 (by decide) (by decide))) (a3j (by decide) q.ex)) (Q5 (I3 (a3G q.ch) (w2 (by decide) (by decide))) (Q5 (I3 (w1 (by decide)) hr) (Q5 (I3 (w1 (by decide)) hr) (Q5 (w2 (by decide) (by decide)) (Q5 (w2 (by decide) (by decide)) (Q5 (I3 (w1 (by decide)) hr) (Q5 (I3 (w2 (by decide) (by decide)) hr) (Q5 (I3 (w1 (by decide)) hr) (Q5 (I3 (w1 (by decide)) (a3j (by decide) q.ex)) (Q5 (I3 (w1 (by decide)) (a3j (by decide) q.ex)) (I3 (I3 (I3 (b2U q.n) (w1 (by decide))) (a3j (by decide) q.ex)) (w1 (by decide))))))))))))))))))
theorem a9G {m:View} {h:List Res} {e:Ex} (q:EOk m h e):TkL (Z4 e):=by
 unfold Z4;split
 ·exact a2K
 ·exact I3 (a3G q) (a5h (p:=0) (by decide))
theorem c0t {m:View} {h:List Res} {g:Gu} (q:GOk m h g):TkL (F5 g.k g.name g.cond g.ch g.tg.l g.vl.l g.time):=by
 have w1:∀ {s:B},s.length<=1000->TkL [A2 s]:=fun h=>a06 (Nat.le_trans h (by decide))
 unfold F5;exact Q5 (a3G q.cond) (Q5 (I3 (a9G q.cond) (w1 (by decide))) (Q5 (I3 (I3 (I3 (a9G q.cond) (a3G q.ch)) (w1 (by decide))) (a3j (by decide) q.tg)) (Q5 (I3 (I3 (I3 (a9G q.cond) (a3G q.ch)) (a9f (w1 (by decide)) (w1 (by decide)))) (a3G q.time)) (Q5 (a3j (by decide) q.vl) (Q5 (w1 (by decide)) (I3 (b2U q.n) (c8b (by decide) (a3j (by decide) q.tg))))))))
theorem b4k (e:Ex):(Z4 e).length<=30000:=by
 unfold Z4;have:=N6 e;split
 ·exact Nat.zero_le _
 ·rw[List.length_append]
  simp only[List.length_singleton];omega
theorem b8G (s:B) {l:List Tok} (h:l.length<=25000):(a1n s l).length<=30000:=by
 unfold a1n;split
 ·exact Nat.zero_le _
 ·simp only[List.length_cons]
  omega
theorem a8n (sep:B) (l:List Ex) (h:l.length<=9):(B4 sep B5 l).length<=25000:=by
 have h1:=a4x sep B5 2000 l fun x _=>N6 x
 have h2:l.length * 2001<=9 * 2001:=Nat.mul_le_mul_right _ h;omega
theorem c2J {g:Gu} (h:guP g=true) (h0:0<=g.k):(1<=g.k/\g.k<=7)/\g.bl.length=1/\g.tg.l.length<=8/\g.vl.l.length<=8:=by
 unfold guP at h;simp only[Bool.and_eq_true,bne_iff_ne,ne_eq,decide_eq_true_eq,beq_iff_eq] at h;obtain⟨⟨⟨⟨⟨⟨⟨⟨h1,h2⟩,h3⟩,-⟩,-⟩,-⟩,-⟩,h4⟩,h5⟩:=h;have h4:=(F6 h4).2.2;have h5:=(F6 h5).2.2;refine⟨⟨by omega,h2⟩,by omega,?_,?_⟩
 ·have:(if g.k=3 then (8:Int) else if g.k=7 then 8 else 0)<=8:=by repeat' split <;> omega
  omega
 ·have:(if g.k=5 then (8:Int) else 0)<=8:=by split <;> omega
  omega
theorem c0n (g:Gu) (d:Int):V9 g d=(d,F5 g.k g.name g.cond g.ch g.tg.l g.vl.l g.time)::a1p g.bl (d+1):=by cases g;rfl
abbrev PRC (m:View) (p:Pr):Prop:=∀ (b:Nat) (a:Option Addr) (c:Nat) (st:Ps) (d:Int) (h:List Res),POk m h p->Vld p->(0<=d/\d+2 * (T0 p:Int)<=100000)->st.1.length<=2049 ->
 CT Tryz.prog 25 [ptV b,prV p,.int .i64 d] (prB b a c st::prW a c st::h) m (fun _ _ h'=>PrR b h (C1 st (B2 p d)) h')
set_option maxHeartbeats 4000000 in
theorem c0p {m:View} (hg:Glob m) (hp:Pow m) (g:Gu) (b:Nat) (a:Option Addr) (c:Nat) (st:Ps) (d:Int) (h:List Res) (hO:GOk m h g) (hu:guP g=true) (hS:∀ x ∈ g.bl,POk m h x/\Vld x/\PRC m x/\d+1+2 * (T0 x:Int)<=100000) (hd:0<=d/\d<=100000) (hn:st.1.length<=2049) :
 CT Tryz.prog 43 [ptV b,guV g,.int .i64 d] (prB b a c st::prW a c st::h) m (fun _ _ h'=>PrR b h (C1 st (V9 g d)) h'):=by
 obtain⟨hk,hbl,hTg,hVl⟩:=c2J hu hO.k.1;have hT:=c0t hO;have hrb:=hO.b;obtain⟨y,hy⟩:=A5 (l:=g.bl) (k:=0) (by omega);have hym:=List.mem_of_getElem? hy;obtain⟨hy1,hy2,hy3,hy4⟩:=hS y hym;have hcy:=a7B y;have hlg:V9 g d=(d,F5 g.k g.name g.cond g.ch g.tg.l g.vl.l g.time)::B2 y (d+1):=by
  have e:g.bl=[y]:=by
   cases hb:g.bl with
   | nil=>rw[hb] at hy;cases hy
   | cons z r=>
    rw[hb] at hy hbl;cases hy;cases r with
    | nil=>rfl
    | cons u v=>simp at hbl
  rw[c0n,e];rfl
 refine CT.body Tryz.call43 Tryz.func43 rfl Tryz.ntmps43 Lb rfl ?_;refine j0 ?_;refine xX fun b4=>?_
 refine kQ0 [0,2,4] ?_;refine WL.addNil 106 4 ?_;refine kQ1 [0,2,4,6] ?_;refine kA2 ?_;refine xf (E1 Et) (a3S g.cond (hO.cond.t.mono Sb)) ?_;refine kP1 [0,2,4,6,11] ?_;refine K6 KKh [0,2,4] rfl (fun F' h'=>∃ a6:Option Addr,∃ c6:Nat,∃ L:List Tok,(L=Z4 g.cond)/\F'=[(6,.slice a6 L.length c6)]/\.row (.slice a6 L.length c6) 106 4 L.length (fl C0 L)::.pt b4 (.cells (guE g).toArray 86 (0,0))::prB b a c st::prW a c st::h=h') ?_ ?_;refine jE ?_;refine wc (fun c11=>?_) fun c11=>?_
 have e11:Z4 g.cond=B5 g.cond++[⟨5,0,[38],0⟩]:=by unfold Z4;rw[if_neg (by simpa using c11)]
 have hln:(B5 g.cond++[(⟨5,0,[38],0⟩:Tok)]).length=(B5 g.cond).length+1:=List.length_append;have htl:=N6 g.cond;refine kA2 ?_;refine xg (E1 Et) (M2 hg g.cond _ (hO.cond.mono Sb)) ?_;rintro _ _ ⟨a14,c14,_,rfl,rfl,rfl⟩;refine xf (E1 Ek) (J8 _ _ _) ?_;refine xY B1 Eb fun b16=>?_
 refine xD B1 (Ev.tmp rfl) (Ev.tmp rfl) (show(B5 g.cond).length+1=(B5 g.cond++[(⟨5,0,[38],0⟩:Tok)]).length from hln.symm) (G9 (enc:=C0) _ (⟨5,0,[38],0⟩)) fun a17 c17=>?_
 refine kA1 ?_;refine WL.nil (D8 [(6,.slice a17 (B5 g.cond++[(⟨5,0,[38],0⟩:Tok)]).length c17)] (h'':=.row (.slice a17 (B5 g.cond++[(⟨5,0,[38],0⟩:Tok)]).length c17) 106 4 (B5 g.cond++[(⟨5,0,[38],0⟩:Tok)]).length (fl C0 (B5 g.cond++[(⟨5,0,[38],0⟩:Tok)]))::.pt b4 (.cells (guE g).toArray 86 (0,0))::prB b a c st::prW a c st::h) ?_ Su Sb ⟨a17,c17,B5 g.cond++[(⟨5,0,[38],0⟩:Tok)],e11.symm,rfl,rfl⟩);exact Su;have e11:Z4 g.cond=[]:=by unfold Z4;rw[if_pos (by simpa using c11)]
 refine WC.skip (D8 [(6,.slice none ([]).length 0)] (h'':=.row (.slice none ([]).length 0) 106 4 ([]).length (fl C0 ([]))::.pt b4 (.cells (guE g).toArray 86 (0,0))::prB b a c st::prW a c st::h) ?_ Su Sb ⟨none,0,[],e11.symm,rfl,rfl⟩);exact Su;rintro _ _ ⟨a6,c6,L,hL,rfl,rfl⟩;refine B9 rfl ?_;subst hL;refine kA2 ?_;refine xg (E3 Et Ek Ef) (a4h 60 B5 [59] _ _ _ g.tg.l _ (hO.tg.rd.mono Vl Sb) (by omega) (fun x _=>Nat.le_trans (N6 x) (by decide)) (fun x hx h2 hh=>M2 hg x h2 ((hO.tg.ok x hx).mono (List.Sublist.trans Sb hh)))) ?_;rintro _ _ ⟨a20,c20,_,rfl,rfl,rfl⟩;refine kQ1 [0,2,4,6,7] ?_;refine kP2 [0,2,4,6,7,22] ?_;refine K6 KKh [0,2,4] rfl (fun F' h'=>∃ a9:Option Addr,∃ c9:Nat,(True)/\F'=[]/\prB b a9 c9 (D0 st (d,F5 g.k g.name g.cond g.ch g.tg.l g.vl.l g.time))::prW a9 c9 (D0 st (d,F5 g.k g.name g.cond g.ch g.tg.l g.vl.l g.time))::.pt b4 (.cells (guE g).toArray 86 (0,0))::h=h') ?_ ?_
 refine kQ2 [0,2,4,6,7,22,23] ?_;refine wc (fun c23=>?_) fun c23=>?_
 replace c23:=H7 c23;have e9:=F5.eq_1 g.k g.name g.cond g.ch g.tg.l g.vl.l g.time;rw[if_pos c23] at e9;refine kA4 ?_;refine xg (E1 Et) (M2 hg g.cond _ (hO.cond.mono Sb)) ?_;rintro _ _ ⟨a29,c29,_,rfl,rfl,rfl⟩;refine xY O3 Eb fun b30=>?_
 refine kR a29 fun p29 q29 r29=>?_
 refine WL.perm ((Del.perm (r:=prB b a c st) De).trans ((Del.perm (r:=prW a c st) De).cons _)) ?_;refine xg (E3 Et Et Et) (I2 hg hp b a c st d _ 1 _ [⟨a29,c29,B5 g.cond⟩] (F5 g.k g.name g.cond g.ch g.tg.l g.vl.l g.time) _ (Rd.ofPt rfl (by decide) Me) (C2 (iR r29 p29 q29) K3) (by decide) (C2 (Nat.le_trans (N6 _) (by decide)) K3) (by rw[e9];simp) (hT) hn) ?_;rintro _ _ ⟨a31,c31,rfl⟩;refine WL.nil (D8 [] (h'':=prB b a31 c31 (D0 st (d,F5 g.k g.name g.cond g.ch g.tg.l g.vl.l g.time))::prW a31 c31 (D0 st (d,F5 g.k g.name g.cond g.ch g.tg.l g.vl.l g.time))::.pt b4 (.cells (guE g).toArray 86 (0,0))::h) ?_ Su Sb ⟨a31,c31,by trivial,rfl,rfl⟩);exact Su;replace c23:=H5 c23;refine kQ2 [0,2,4,6,7,22,32] ?_;refine wc (fun c32=>?_) fun c32=>?_
 replace c32:=H7 c32;have e9:=F5.eq_1 g.k g.name g.cond g.ch g.tg.l g.vl.l g.time;rw[if_neg c23,if_pos c32] at e9;refine kA3 ?_;refine xY Q7 Eb fun b37=>?_
 refine xg (E1 Et) (C9 hg _ 1 _ [[83,75,73,80]] _ Rr (by decide) (by decide)) ?_;rintro _ _ ⟨a38,c38,_,rfl,rfl,rfl⟩;refine xY O3 Eb fun b39=>?_
 refine kR a6 fun p6 q6 r6=>?_
 refine kR a38 fun p38 q38 r38=>?_
 refine WL.perm ((Del.perm (r:=prB b a c st) De).trans ((Del.perm (r:=prW a c st) De).cons _)) ?_;refine xg (E3 Et Et Et) (I2 hg hp b a c st d _ 2 _ [⟨a6,c6,Z4 g.cond⟩,⟨a38,c38,[A2 [83,75,73,80]]⟩] (F5 g.k g.name g.cond g.ch g.tg.l g.vl.l g.time) _ (Rd.ofPt rfl (by decide) Me) (C2 (iR r6 p6 q6) (C2 (iR r38 p38 q38) K3)) (by decide) (C2 (b4k _) (C2 (by simp) K3)) (by rw[e9];simp) (hT) hn) ?_;rintro _ _ ⟨a40,c40,rfl⟩;refine WL.nil (D8 [] (h'':=prB b a40 c40 (D0 st (d,F5 g.k g.name g.cond g.ch g.tg.l g.vl.l g.time))::prW a40 c40 (D0 st (d,F5 g.k g.name g.cond g.ch g.tg.l g.vl.l g.time))::.pt b4 (.cells (guE g).toArray 86 (0,0))::h) ?_ Su Sb ⟨a40,c40,by trivial,rfl,rfl⟩);exact Su;replace c32:=H5 c32;refine kQ2 [0,2,4,6,7,22,41] ?_;refine wc (fun c41=>?_) fun c41=>?_
 replace c41:=H7 c41;have e9:=F5.eq_1 g.k g.name g.cond g.ch g.tg.l g.vl.l g.time;rw[if_neg c23,if_neg c32,if_pos c41] at e9;refine kA5 ?_;refine xg (E1 Et) (M2 hg g.ch _ (hO.ch.mono Sb)) ?_;rintro _ _ ⟨a48,c48,_,rfl,rfl,rfl⟩;refine xY Q7 Eb fun b49=>?_
 refine xg (E1 Et) (C9 hg _ 1 _ [[63]] _ Rr (by decide) (by decide)) ?_;rintro _ _ ⟨a50,c50,_,rfl,rfl,rfl⟩;refine kA1 ?_;refine xY O3 Eb fun b52=>?_
 refine kR a6 fun p6 q6 r6=>?_
 refine kR a48 fun p48 q48 r48=>?_
 refine kR a50 fun p50 q50 r50=>?_
 refine kR a20 fun p20 q20 r20=>?_
 refine WL.perm ((Del.perm (r:=prB b a c st) De).trans ((Del.perm (r:=prW a c st) De).cons _)) ?_;refine xg (E3 Et Et Et) (I2 hg hp b a c st d _ 4 _ [⟨a6,c6,Z4 g.cond⟩,⟨a48,c48,B5 g.ch⟩,⟨a50,c50,[A2 [63]]⟩,⟨a20,c20,B4 [59] B5 g.tg.l⟩] (F5 g.k g.name g.cond g.ch g.tg.l g.vl.l g.time) _ (Rd.ofPt rfl (by decide) Me) (C2 (iR r6 p6 q6) (C2 (iR r48 p48 q48) (C2 (iR r50 p50 q50) (C2 (iR r20 p20 q20) K3)))) (by decide) (C2 (b4k _) (C2 (Nat.le_trans (N6 _) (by decide)) (C2 (by simp) (C2 (Nat.le_trans (a8n [59] g.tg.l (by omega)) (by decide)) K3)))) (by rw[e9];simp) (hT) hn) ?_;rintro _ _ ⟨a53,c53,rfl⟩;refine WL.nil (D8 [] (h'':=prB b a53 c53 (D0 st (d,F5 g.k g.name g.cond g.ch g.tg.l g.vl.l g.time))::prW a53 c53 (D0 st (d,F5 g.k g.name g.cond g.ch g.tg.l g.vl.l g.time))::.pt b4 (.cells (guE g).toArray 86 (0,0))::h) ?_ Su Sb ⟨a53,c53,by trivial,rfl,rfl⟩);exact Su;replace c41:=H5 c41
 refine kQ2 [0,2,4,6,7,22,54] ?_;refine wc (fun c54=>?_) fun c54=>?_
 replace c54:=H7 c54;have e9:=F5.eq_1 g.k g.name g.cond g.ch g.tg.l g.vl.l g.time;rw[if_neg c23,if_neg c32,if_neg c41,if_pos c54] at e9;refine jE ?_;refine a1j [5,6,7,4096] (.op 0 (.op 1 (.op 2 (.op 3 (.op 4 (.op 8 (.op 9 (.op 5 (.op 6 (.op 7 .nil)))))))))) [10,11,12] _ [] F1 (fun _ _ _ h=>a2N h) [0,1,2] (by kernel_rfl) ?_;refine kA7 ?_;refine J2 rfl rfl Ef (E1 Et) (fun fr=>M2 hg g.ch _ (hO.ch.mono Sb)) Lb fun a61 c61=>?_
 refine sB rfl Q7 fun b62=>?_
 refine J2 rfl rfl Ef (E1 (Ev.tmp rfl)) (fun fr=>C9 hg _ 2 _ [[63],[65,70,84,69,82]] _ (Rd.fr Rr fr) (by decide) (by decide)) Lb fun a63 c63=>?_
 refine SR.nil rfl rfl ?_;refine xg (E1 Et) (M2 hg g.time _ (hO.time.mono Sb)) ?_;rintro _ _ ⟨a66,c66,_,rfl,rfl,rfl⟩;refine xY O3 Eb fun b67=>?_
 refine kR a6 fun p6 q6 r6=>?_
 refine kR a61 fun p61 q61 r61=>?_
 refine kR a63 fun p63 q63 r63=>?_
 refine kR a66 fun p66 q66 r66=>?_
 refine WL.perm ((Del.perm (r:=prB b a c st) De).trans ((Del.perm (r:=prW a c st) De).cons _)) ?_;refine xg (E3 Et Et Et) (I2 hg hp b a c st d _ 4 _ [⟨a6,c6,Z4 g.cond⟩,⟨a61,c61,B5 g.ch⟩,⟨a63,c63,[A2 [63],A2 [65,70,84,69,82]]⟩,⟨a66,c66,B5 g.time⟩] (F5 g.k g.name g.cond g.ch g.tg.l g.vl.l g.time) _ (Rd.ofPt rfl (by decide) Me) (C2 (iR r6 p6 q6) (C2 (iR r61 p61 q61) (C2 (iR r63 p63 q63) (C2 (iR r66 p66 q66) K3)))) (by decide) (C2 (b4k _) (C2 (Nat.le_trans (N6 _) (by decide)) (C2 (by simp) (C2 (Nat.le_trans (N6 _) (by decide)) K3)))) (by rw[e9];simp) (hT) hn) ?_;rintro _ _ ⟨a68,c68,rfl⟩;refine WL.nil (D8 [] (h'':=prB b a68 c68 (D0 st (d,F5 g.k g.name g.cond g.ch g.tg.l g.vl.l g.time))::prW a68 c68 (D0 st (d,F5 g.k g.name g.cond g.ch g.tg.l g.vl.l g.time))::.pt b4 (.cells (guE g).toArray 86 (0,0))::h) ?_ Su Sb ⟨a68,c68,by trivial,rfl,rfl⟩);exact Su;replace c54:=H5 c54
 refine kQ2 [0,2,4,7,22,69] ?_;refine wc (fun c69=>?_) fun c69=>?_
 replace c69:=H7 c69;have e9:=F5.eq_1 g.k g.name g.cond g.ch g.tg.l g.vl.l g.time;rw[if_neg c23,if_neg c32,if_neg c41,if_neg c54,if_pos c69] at e9;refine kA4 ?_;refine xg (E3 Et Ek Ef) (a4h 60 B5 [44] _ _ _ g.vl.l _ (hO.vl.rd.mono Vl Sb) (by omega) (fun x _=>Nat.le_trans (N6 x) (by decide)) (fun x hx h2 hh=>M2 hg x h2 ((hO.vl.ok x hx).mono (List.Sublist.trans Sb hh)))) ?_;rintro _ _ ⟨a75,c75,_,rfl,rfl,rfl⟩;refine xY O3 Eb fun b76=>?_
 refine kR a75 fun p75 q75 r75=>?_
 refine WL.perm ((Del.perm (r:=prB b a c st) De).trans ((Del.perm (r:=prW a c st) De).cons _)) ?_;refine xg (E3 Et Et Et) (I2 hg hp b a c st d _ 1 _ [⟨a75,c75,B4 [44] B5 g.vl.l⟩] (F5 g.k g.name g.cond g.ch g.tg.l g.vl.l g.time) _ (Rd.ofPt rfl (by decide) Me) (C2 (iR r75 p75 q75) K3) (by decide) (C2 (a1r [44] g.vl.l (by omega)) K3) (by rw[e9];simp) (hT) hn) ?_;rintro _ _ ⟨a77,c77,rfl⟩;refine WL.nil (D8 [] (h'':=prB b a77 c77 (D0 st (d,F5 g.k g.name g.cond g.ch g.tg.l g.vl.l g.time))::prW a77 c77 (D0 st (d,F5 g.k g.name g.cond g.ch g.tg.l g.vl.l g.time))::.pt b4 (.cells (guE g).toArray 86 (0,0))::h) ?_ Su Sb ⟨a77,c77,by trivial,rfl,rfl⟩);exact Su;replace c69:=H5 c69;refine kQ2 [0,2,4,7,22,78] ?_;refine wc (fun c78=>?_) fun c78=>?_
 replace c78:=H7 c78;have e9:=F5.eq_1 g.k g.name g.cond g.ch g.tg.l g.vl.l g.time;rw[if_neg c23,if_neg c32,if_neg c41,if_neg c54,if_neg c69,if_pos c78] at e9;refine kA2 ?_;refine xY Q7 Eb fun b82=>?_
 refine xg (E1 Et) (C9 hg _ 1 _ [[69,76,83,69]] _ Rr (by decide) (by decide)) ?_;rintro _ _ ⟨a83,c83,_,rfl,rfl,rfl⟩;refine xY O3 Eb fun b84=>?_
 refine kR a83 fun p83 q83 r83=>?_
 refine WL.perm ((Del.perm (r:=prB b a c st) De).trans ((Del.perm (r:=prW a c st) De).cons _)) ?_;refine xg (E3 Et Et Et) (I2 hg hp b a c st d _ 1 _ [⟨a83,c83,[A2 [69,76,83,69]]⟩] (F5 g.k g.name g.cond g.ch g.tg.l g.vl.l g.time) _ (Rd.ofPt rfl (by decide) Me) (C2 (iR r83 p83 q83) K3) (by decide) (C2 (by simp) K3) (by rw[e9];simp) (hT) hn) ?_;rintro _ _ ⟨a85,c85,rfl⟩;refine WL.nil (D8 [] (h'':=prB b a85 c85 (D0 st (d,F5 g.k g.name g.cond g.ch g.tg.l g.vl.l g.time))::prW a85 c85 (D0 st (d,F5 g.k g.name g.cond g.ch g.tg.l g.vl.l g.time))::.pt b4 (.cells (guE g).toArray 86 (0,0))::h) ?_ Su Sb ⟨a85,c85,by trivial,rfl,rfl⟩);exact Su;replace c78:=H5 c78;refine kQ2 [0,2,4,7,86] ?_;refine wc (fun c86=>?_) fun c86=>?_
 replace c86:=H7 c86;have e9:=F5.eq_1 g.k g.name g.cond g.ch g.tg.l g.vl.l g.time;rw[if_neg c23,if_neg c32,if_neg c41,if_neg c54,if_neg c69,if_neg c78] at e9;refine kA4 ?_;refine xg (E1 Et) (a3n g.name _ _) ?_;rintro _ _ ⟨a92,c92,_,rfl,rfl,rfl⟩;refine kA1 ?_;refine kR a20 fun p20 q20 r20=>?_
 refine xg (E2 Ek Et) (b5X hg [59] (by decide) _ _ _ (B4 [59] B5 g.tg.l) _ (iR r20 p20 q20) (Nat.le_trans (a8n [59] g.tg.l (by omega)) (by decide))) ?_;rintro _ _ ⟨a94,c94,_,rfl,rfl,rfl⟩;refine xY O3 Eb fun b95=>?_
 refine kR a92 fun p92 q92 r92=>?_
 refine kR a94 fun p94 q94 r94=>?_
 refine WL.perm ((Del.perm (r:=prB b a c st) De).trans ((Del.perm (r:=prW a c st) De).cons _)) ?_;refine xg (E3 Et Et Et) (I2 hg hp b a c st d _ 2 _ [⟨a92,c92,[G4 g.name]⟩,⟨a94,c94,a1n [59] (B4 [59] B5 g.tg.l)⟩] (F5 g.k g.name g.cond g.ch g.tg.l g.vl.l g.time) _ (Rd.ofPt rfl (by decide) Me) (C2 (iR r92 p92 q92) (C2 (iR r94 p94 q94) K3)) (by decide) (C2 (by simp) (C2 (b8G [59] (a8n [59] g.tg.l (by omega))) K3)) (by rw[e9];simp) (hT) hn) ?_;rintro _ _ ⟨a96,c96,rfl⟩;refine WL.nil (D8 [] (h'':=prB b a96 c96 (D0 st (d,F5 g.k g.name g.cond g.ch g.tg.l g.vl.l g.time))::prW a96 c96 (D0 st (d,F5 g.k g.name g.cond g.ch g.tg.l g.vl.l g.time))::.pt b4 (.cells (guE g).toArray 86 (0,0))::h) ?_ Su Sb ⟨a96,c96,by trivial,rfl,rfl⟩);exact Su;replace c86:=H5 c86;omega;rintro _ _ ⟨a9,c9,hJ,rfl,rfl⟩;refine B9 rfl ?_;refine kA3 ?_
 refine xG (G8 a1B.und a1B.size a1B.posz (Ev.tmp rfl) Ek Rr rfl (q:=0) (by omega)) ?_;refine kA3 ?_;refine xg (E3 Et Et Et) (hy3 b a9 c9 (D0 st (d,F5 g.k g.name g.cond g.ch g.tg.l g.vl.l g.time)) (d+1) _ (hy1.mono Sb) hy2 (by omega) (Y5 hn)) ?_;rintro _ _ ⟨a104,c104,rfl⟩;rw[<- a0V,<- hlg];refine WL.nil (w0 (prB b a104 c104 (C1 st (V9 g d))::prW a104 c104 (C1 st (V9 g d))::h) ?_);exact⟨a104,c104,rfl⟩
end
section
open Go.Eng Go.Pc Go.Sx Go
open Go.Xp hiding B D1
open Go.Ty (Ty Vr Tok eqT tyV L5 C0 C3 Y1 zeroK O9 E6 encV F2 prL prV PrOk VOk mayPr hdV)
open Go.Lx (encB D7 textO)
open Go.Ly (Rw S9 F7)
theorem a9M {t:Ty}:TkL (F8 t):=by
 unfold F8 Go.Ty.tokens;split
 ·rename_i hm
  have hw:=b8F hm;have hd:=Go.Ty.may_dim hm;have h1:TkL (Go.Ty.dimT t):=by
   unfold Go.Ty.dimT;refine Q5 (a9f (a5h (p:=0) (by decide)) (a9f (fun x hx=>?_) (a5h (p:=0) (by decide)))) a2K;rw[List.mem_singleton] at hx;subst hx;exact⟨(show -2147483648<=t.dim/\t.dim<=2147483647 by omega),Nat.zero_le _⟩
  have h2:TkL (Go.Ty.chanT t):=Q5 (a9f (a5h (p:=0) (by decide)) (a5h (p:=0) (by decide))) a2K;have h3:TkL [Go.Ty.lastT t]:=by
   unfold Go.Ty.lastT;split
   ·refine a5h (p:=0) ?_
    have:∀ k,(Go.Ty.wordS k).1.length<=10:=fun k=>by
     unfold Go.Ty.wordS Go.Ty.prims Go.Ty.wordIn Go.Ty.wordIn Go.Ty.wordIn Go.Ty.wordIn;repeat' split
     all_goals decide
    exact Nat.le_trans (this _) (by decide)
   ·split
    ·exact a5h (p:=0) hw.p
    ·exact a5h (p:=0) (by decide)
  exact I3 (I3 h1 h2) h3
 ·exact a2K
theorem c9Y {f:Fo} (h:FoW f):TkL (J3 f):=I3 (I3 (Q5 (a06 (by decide)) a2K) a9M) (b2U h.n)
theorem a8N {l:List B} (h:∀ x ∈ l,x.length<=Big):TkL (I7 l):=b5k (by decide) fun x hx=>b2U (h x hx)
theorem c2a {l:List Int}:TkL (B4 [59] W5 l):=b5k (by decide) fun _ _=>a9M
theorem a4n (l:List B) (h:l.length<=9):(I7 l).length<=30000:=by
 have h1:=a4x [44] (fun s=>[G4 s]) 1 l fun x _=>Nat.le_refl _
 unfold I7;omega
theorem b3U (k:Int):(W5 k).length<=10:=a4w _
theorem b0y (sep:B) (l:List Int) (h:l.length<=9):(B4 sep W5 l).length<=25000:=by
 have h1:=a4x sep W5 10 l fun x _=>b3U x
 omega
theorem b2K (f:Fo):(J3 f).length<=20:=by
 unfold J3;have:=a4w f.ty;rw[List.length_append,List.length_append];split <;> simp only[List.length_singleton,List.length_nil] <;> omega
theorem c4B (sep:B) (l:List Fo) (h:l.length<=9):(B4 sep J3 l).length<=30000:=by
 have h1:=a4x sep J3 20 l fun x _=>b2K x
 omega
theorem c1V {s:Sp} (h:spP s=true):(1<=s.k/\s.k<=5)/\s.names.l.length<=8/\(s.k=5->s.bl.length=1/\s.fs.l.length<=8)/\(s.k=4->mayPr s.cs s.vs.l=true):=by
 unfold spP at h;split at h
 ·rename_i hk
  simp only[Bool.and_eq_true] at h;obtain⟨⟨h1,h2⟩,-⟩:=h;have h3:=(F6 h2).2.2;refine⟨hk,by split at h3 <;> omega,fun h5=>?_,fun h4=>?_⟩
  ·unfold a1F at h1
   rw[if_neg (by omega),if_neg (by omega),if_neg (by omega),if_neg (by omega)] at h1;simp only[Bool.and_eq_true,beq_iff_eq] at h1;have:=(F6 h1.2).2.2;exact⟨by omega,by omega⟩
  ·unfold a1F at h1
   rw[if_neg (by omega),if_neg (by omega),if_neg (by omega),if_pos h4] at h1;exact h1
 ·cases h
theorem c08 {cs:Bool} {l:List Vr} (h:mayPr cs l=true):1<=l.length/\l.length<=16:=by
 unfold Go.Ty.mayPr at h;cases cs with
 | false=>
  simp only[Bool.not_false,if_true,Bool.and_eq_true,beq_iff_eq] at h;omega
 | true=>
  simp only[Bool.not_true,Bool.false_eq_true,if_false] at h;split at h
  ·cases h
  ·rename_i q
   simp only[Bool.or_eq_true,decide_eq_true_eq] at q;omega
theorem b3a:∀ {l pre:List Vr},Go.Ty.mayIn pre l=true->∀ v ∈ l,v.tag.length<=Big
 | [],_,_,v,hv=>by cases hv
 | w::r,pre,h,v,hv=>by
  unfold Go.Ty.mayIn at h;split at h
  ·cases h
  ·rename_i q
   cases hv with
   | head=>
    unfold Go.Ty.badV at q;simp only[Bool.or_eq_true,Bool.not_eq_true',not_or,Bool.not_eq_false] at q;have q1:=q.1.1;unfold Go.Lx.name at q1;simp only[Bool.and_eq_true,decide_eq_true_eq] at q1;have q2:=q1.1.1.1.2;unfold Big;omega
   | tail _ hv=>exact b3a h v hv
theorem c00 {cs:Bool} {l:List Vr} (h:mayPr cs l=true):∀ v ∈ l,v.tag.length<=Big:=by
 unfold Go.Ty.mayPr at h;cases cs with
 | false=>
  simp only[Bool.not_false,if_true,Bool.and_eq_true,beq_iff_eq] at h;intro v hv;match l,h.1.1,h.1.2,hv with
  | [w],_,h2,hv=>
   have:v=w:=by simpa using hv
   subst this;have h3:v.tag=[]:=h2;rw[h3];exact Nat.zero_le _
 | true=>
  simp only[Bool.not_true,Bool.false_eq_true,if_false] at h;split at h
  ·cases h
  ·exact b3a h
theorem b9v (s:Sp) (d:Int):G6 s d=if s.k=1 then [(d,(F8 s.ty++I7 s.names.l)++[A2 [58]])]
 else if s.k=2 then [(d,(((([A2 [86,65,76]]++F8 s.ty)++I7 s.names.l)++[A2 [73,83]])++B5 s.e)++[A2 [58]])]
 else if s.k=3 then [(d,(((F8 s.ty++I7 s.names.l)++[A2 [73,83]])++B5 s.e)++[A2 [58]])]
 else if s.k=5 then (d,((([A2 [80,82,79,67]]++I7 s.names.l)++[A2 [40]])++B4 [44] J3 s.fs.l)++[A2 [41]])::(a1p s.bl (d+1)++[(d,[A2 [58]])])
 else if s.cs=false then [(d,((([A2 [80,82,79,84,79,67,79,76]]++I7 s.names.l)++[A2 [73,83]])++B4 [59] W5 (hdV s.vs.l).items)++[A2 [58]])]
 else (d,[A2 [80,82,79,84,79,67,79,76]]++I7 s.names.l)::(d+1,[A2 [67,65,83,69]])::(s.vs.l.map (fun v=>((d+2,I0 v):Ln))++[(d,[A2 [58]])]):=by cases s;rfl
theorem c9S {l:List Vr} (h:1<=l.length):l[0]?=some (hdV l):=by cases l with | nil=>simp at h | cons v l=>rfl
theorem b7J (st:Ps) (l:List Ln) (x:Ln):D0 (C1 st l) x=C1 st (l++[x]):=by rw[a0Z];rfl
set_option maxHeartbeats 4000000 in
theorem c4Q {m:View} (hg:Glob m) (hp:Pow m) (s:Sp) (b:Nat) (a:Option Addr) (c:Nat) (st:Ps) (d:Int) (h:List Res) (hO:SOk m h s) (hu:spP s=true) (hS:∀ x ∈ s.bl,POk m h x/\Vld x/\PRC m x/\d+1+2 * (T0 x:Int)<=100000) (hd:0<=d/\d<=100000) (hn:st.1.length<=2049) :
 CT Tryz.prog 39 [ptV b,spV s,.int .i64 d] (prB b a c st::prW a c st::h) m (fun _ _ h'=>PrR b h (C1 st (G6 s d)) h'):=by
 obtain⟨hk,hnl,h5,h4⟩:=c1V hu;have hty:s.ty.proto.length<=9223372036854775807:=Nat.le_trans hO.ty.p (by decide);have hls:=b9v s d;have hfw:=hO.fw;refine CT.body Tryz.call39 Tryz.func39 rfl Tryz.ntmps39 Lb rfl ?_;refine j0 ?_;refine xX fun b4=>?_
 refine kQ0 [0,2,4] ?_;refine kA2 ?_;refine xg (E3 Et Ek Ef) (b9J 58 (fun s=>[G4 s]) [44] _ _ _ s.names.l _ (hO.nr.mono Vl Sb) (by omega) (fun _ _=>(by decide:1<=3000)) (fun x _ h2 _=>a3n x h2 m)) ?_;rintro _ _ ⟨a11,c11,_,rfl,rfl,rfl⟩;refine kQ1 [0,2,4,6] ?_;refine kQ2 [0,2,4,6,13] ?_;refine kQ2 [0,2,4,6,13,14] ?_;refine wc (fun c14=>?_) fun c14=>?_
 replace c14:=H7 c14;obtain⟨T1,hT1⟩:∃ T,T=(F8 s.ty++I7 s.names.l)++[A2 [58]]:=⟨_,rfl⟩;rw[if_pos c14,<- hT1] at hls;refine kA4 ?_;refine xg (E1 Et) (a2U hg s.ty _ hty) ?_;rintro _ _ ⟨a20,c20,_,rfl,rfl,rfl⟩;refine kA1 ?_;refine xY Q7 Eb fun b22=>?_
 refine xg (E1 Et) (C9 hg _ 1 _ [[58]] _ Rr (by decide) (by decide)) ?_;rintro _ _ ⟨a23,c23,_,rfl,rfl,rfl⟩;refine xY O3 Eb fun b24=>?_
 refine kR a20 fun p20 q20 r20=>?_
 refine kR a11 fun p11 q11 r11=>?_
 refine kR a23 fun p23 q23 r23=>?_
 refine WL.perm ((Del.perm (r:=prB b a c st) De).trans ((Del.perm (r:=prW a c st) De).cons _)) ?_;refine xg (E3 Et Et Et) (I2 hg hp b a c st d _ 3 _ [⟨a20,c20,F8 s.ty⟩,⟨a11,c11,I7 s.names.l⟩,⟨a23,c23,[A2 [58]]⟩] (T1) _ (Rd.ofPt rfl (by decide) Me) (C2 (iR r20 p20 q20) (C2 (iR r11 p11 q11) (C2 (iR r23 p23 q23) K3))) (by decide) (C2 (Nat.le_trans (a4w _) (by decide)) (C2 (a4n s.names.l (by omega)) (C2 (by simp) K3))) (by rw[hT1];simp) (by rw[hT1];exact I3 (I3 a9M (a8N hO.nw)) (a06 (by decide))) hn) ?_;rintro _ _ ⟨a25,c25,rfl⟩;rw[show D0 st (d,T1)=C1 st (G6 s d) by rw[hls];rfl];refine WL.nil (w0 (prB b a25 c25 (C1 st (G6 s d))::prW a25 c25 (C1 st (G6 s d))::h) ?_);exact⟨a25,c25,rfl⟩;replace c14:=H5 c14;refine kQ2 [0,2,4,6,13,26] ?_;refine wc (fun c26=>?_) fun c26=>?_
 replace c26:=H7 c26;obtain⟨T2,hT2⟩:∃ T,T=(((([A2 [86,65,76]]++F8 s.ty)++I7 s.names.l)++[A2 [73,83]])++B5 s.e)++[A2 [58]]:=⟨_,rfl⟩;rw[if_neg c14,if_pos c26,<- hT2] at hls;refine jE ?_;refine a1j [2,3,6,8,9,12,13,4096] (.op 0 (.op 1 (.op 4 (.op 5 (.op 7 (.op 10 (.op 11 (.op 2 (.op 3 (.op 6 (.op 8 (.op 9 (.op 12 (.op 13 .nil)))))))))))))) [14,15,16] _ [] F1 (fun _ _ _ h=>a2N h) [0,1,7] (by kernel_rfl) ?_;refine kA7 ?_;refine sB rfl Q7 fun b30=>?_
 refine J2 rfl rfl Ef (E1 (Ev.tmp rfl)) (fun fr=>C9 hg _ 1 _ [[86,65,76]] _ (Rd.fr Rr fr) (by decide) (by decide)) Lb fun a31 c31=>?_
 refine J2 rfl rfl Ef (E1 Et) (fun fr=>a2U hg s.ty _ hty) Lb fun a34 c34=>?_
 refine sB rfl Q7 fun b36=>?_
 refine J2 rfl rfl Ef (E1 (Ev.tmp rfl)) (fun fr=>C9 hg _ 1 _ [[73,83]] _ (Rd.fr Rr fr) (by decide) (by decide)) Lb fun a37 c37=>?_
 refine J2 rfl rfl Ef (E1 Et) (fun fr=>M2 hg s.e _ (hO.e.mono Sb)) Lb fun a40 c40=>?_
 refine sB rfl Q7 fun b41=>?_
 refine SR.nil rfl rfl ?_;refine xg (E1 Et) (C9 hg _ 1 _ [[58]] _ Rr (by decide) (by decide)) ?_;rintro _ _ ⟨a42,c42,_,rfl,rfl,rfl⟩;refine xY O3 Eb fun b43=>?_
 refine kR a31 fun p31 q31 r31=>?_
 refine kR a34 fun p34 q34 r34=>?_
 refine kR a11 fun p11 q11 r11=>?_
 refine kR a37 fun p37 q37 r37=>?_
 refine kR a40 fun p40 q40 r40=>?_
 refine kR a42 fun p42 q42 r42=>?_
 refine WL.perm ((Del.perm (r:=prB b a c st) De).trans ((Del.perm (r:=prW a c st) De).cons _)) ?_;refine xg (E3 Et Et Et) (I2 hg hp b a c st d _ 6 _ [⟨a31,c31,[A2 [86,65,76]]⟩,⟨a34,c34,F8 s.ty⟩,⟨a11,c11,I7 s.names.l⟩,⟨a37,c37,[A2 [73,83]]⟩,⟨a40,c40,B5 s.e⟩,⟨a42,c42,[A2 [58]]⟩] (T2) _ (Rd.ofPt rfl (by decide) Me) (C2 (iR r31 p31 q31) (C2 (iR r34 p34 q34) (C2 (iR r11 p11 q11) (C2 (iR r37 p37 q37) (C2 (iR r40 p40 q40) (C2 (iR r42 p42 q42) K3)))))) (by decide) (C2 (by simp) (C2 (Nat.le_trans (a4w _) (by decide)) (C2 (a4n s.names.l (by omega)) (C2 (by simp) (C2 (Nat.le_trans (N6 _) (by decide)) (C2 (by simp) K3)))))) (by rw[hT2];simp) (by rw[hT2];exact I3 (I3 (I3 (I3 (I3 (a06 (by decide)) a9M) (a8N hO.nw)) (a06 (by decide))) (a3G hO.e)) (a06 (by decide))) hn) ?_;rintro _ _ ⟨a44,c44,rfl⟩;rw[show D0 st (d,T2)=C1 st (G6 s d) by rw[hls];rfl]
 refine WL.nil (w0 (prB b a44 c44 (C1 st (G6 s d))::prW a44 c44 (C1 st (G6 s d))::h) ?_);exact⟨a44,c44,rfl⟩;replace c26:=H5 c26;refine kQ2 [0,2,4,6,13,45] ?_;refine wc (fun c45=>?_) fun c45=>?_
 replace c45:=H7 c45;obtain⟨T3,hT3⟩:∃ T,T=(((F8 s.ty++I7 s.names.l)++[A2 [73,83]])++B5 s.e)++[A2 [58]]:=⟨_,rfl⟩;rw[if_neg c14,if_neg c26,if_pos c45,<- hT3] at hls;refine jE ?_;refine a1j [4,6,7,10,11,4096] (.op 0 (.op 1 (.op 2 (.op 3 (.op 5 (.op 8 (.op 9 (.op 4 (.op 6 (.op 7 (.op 10 (.op 11 .nil)))))))))))) [12,13,14] _ [] F1 (fun _ _ _ h=>a2N h) [0,1,5] (by kernel_rfl) ?_;refine kA7 ?_;refine J2 rfl rfl Ef (E1 Et) (fun fr=>a2U hg s.ty _ hty) Lb fun a51 c51=>?_
 refine sB rfl Q7 fun b53=>?_
 refine J2 rfl rfl Ef (E1 (Ev.tmp rfl)) (fun fr=>C9 hg _ 1 _ [[73,83]] _ (Rd.fr Rr fr) (by decide) (by decide)) Lb fun a54 c54=>?_
 refine J2 rfl rfl Ef (E1 Et) (fun fr=>M2 hg s.e _ (hO.e.mono Sb)) Lb fun a57 c57=>?_
 refine sB rfl Q7 fun b58=>?_
 refine SR.nil rfl rfl ?_;refine xg (E1 Et) (C9 hg _ 1 _ [[58]] _ Rr (by decide) (by decide)) ?_;rintro _ _ ⟨a59,c59,_,rfl,rfl,rfl⟩;refine xY O3 Eb fun b60=>?_
 refine kR a51 fun p51 q51 r51=>?_
 refine kR a11 fun p11 q11 r11=>?_
 refine kR a54 fun p54 q54 r54=>?_
 refine kR a57 fun p57 q57 r57=>?_
 refine kR a59 fun p59 q59 r59=>?_
 refine WL.perm ((Del.perm (r:=prB b a c st) De).trans ((Del.perm (r:=prW a c st) De).cons _)) ?_;refine xg (E3 Et Et Et) (I2 hg hp b a c st d _ 5 _ [⟨a51,c51,F8 s.ty⟩,⟨a11,c11,I7 s.names.l⟩,⟨a54,c54,[A2 [73,83]]⟩,⟨a57,c57,B5 s.e⟩,⟨a59,c59,[A2 [58]]⟩] (T3) _ (Rd.ofPt rfl (by decide) Me) (C2 (iR r51 p51 q51) (C2 (iR r11 p11 q11) (C2 (iR r54 p54 q54) (C2 (iR r57 p57 q57) (C2 (iR r59 p59 q59) K3))))) (by decide) (C2 (Nat.le_trans (a4w _) (by decide)) (C2 (a4n s.names.l (by omega)) (C2 (by simp) (C2 (Nat.le_trans (N6 _) (by decide)) (C2 (by simp) K3))))) (by rw[hT3];simp) (by rw[hT3];exact I3 (I3 (I3 (I3 a9M (a8N hO.nw)) (a06 (by decide))) (a3G hO.e)) (a06 (by decide))) hn) ?_;rintro _ _ ⟨a61,c61,rfl⟩;rw[show D0 st (d,T3)=C1 st (G6 s d) by rw[hls];rfl];refine WL.nil (w0 (prB b a61 c61 (C1 st (G6 s d))::prW a61 c61 (C1 st (G6 s d))::h) ?_);exact⟨a61,c61,rfl⟩;replace c45:=H5 c45
 refine kQ2 [0,2,4,6,13,62] ?_;refine wc (fun c62=>?_) fun c62=>?_
 replace c62:=H7 c62;obtain⟨T5,hT5⟩:∃ T,T=((([A2 [80,82,79,67]]++I7 s.names.l)++[A2 [40]])++B4 [44] J3 s.fs.l)++[A2 [41]]:=⟨_,rfl⟩;rw[if_neg c14,if_neg c26,if_neg c45,if_pos c62,<- hT5] at hls;obtain⟨hbl,hfl⟩:=h5 c62;obtain⟨y,hy⟩:=A5 (l:=s.bl) (k:=0) (by omega);obtain⟨hy1,hy2,hy3,hy4⟩:=hS y (List.mem_of_getElem? hy);have hrb:=hO.b;have hcy:=a7B y;have hbe:s.bl=[y]:=by
  cases hb:s.bl with
  | nil=>rw[hb] at hy;cases hy
  | cons z r=>
   rw[hb] at hy hbl;cases hy;cases r with
   | nil=>rfl
   | cons u v=>simp at hbl
 refine jE ?_;refine a1j [2,3,5,6,9,10,4096] (.op 0 (.op 1 (.op 4 (.op 7 (.op 8 (.op 2 (.op 3 (.op 5 (.op 6 (.op 9 (.op 10 .nil))))))))))) [11,12,13] _ [] F1 (fun _ _ _ h=>a2N h) [0,1,4] (by kernel_rfl) ?_;refine kA5 ?_;refine sB rfl Q7 fun b66=>?_
 refine J2 rfl rfl Ef (E1 (Ev.tmp rfl)) (fun fr=>C9 hg _ 1 _ [[80,82,79,67]] _ (Rd.fr Rr fr) (by decide) (by decide)) Lb fun a67 c67=>?_
 refine sB rfl Q7 fun b69=>?_
 refine J2 rfl rfl Ef (E1 (Ev.tmp rfl)) (fun fr=>C9 hg _ 1 _ [[40]] _ (Rd.fr Rr fr) (by decide) (by decide)) Lb fun a70 c70=>?_
 refine J2 rfl rfl Ef (E3 Et Ek Ef) (fun fr=>c0Z 62 J3 [44] _ _ _ s.fs.l _ (hO.fr.mono Vl Sb) (by omega) (fun x _=>Nat.le_trans (b2K x) (by decide)) (fun x hx h2 _=>b7u hg x h2 (hO.fw x hx))) Lb fun a73 c73=>?_
 refine sB rfl Q7 fun b74=>?_
 refine SR.nil rfl rfl ?_;refine xg (E1 Et) (C9 hg _ 1 _ [[41]] _ Rr (by decide) (by decide)) ?_;rintro _ _ ⟨a75,c75,_,rfl,rfl,rfl⟩;refine xY O3 Eb fun b76=>?_
 refine kR a67 fun p67 q67 r67=>?_
 refine kR a11 fun p11 q11 r11=>?_
 refine kR a70 fun p70 q70 r70=>?_
 refine kR a73 fun p73 q73 r73=>?_
 refine kR a75 fun p75 q75 r75=>?_
 refine WL.perm ((Del.perm (r:=prB b a c st) De).trans ((Del.perm (r:=prW a c st) De).cons _)) ?_;refine xg (E3 Et Et Et) (I2 hg hp b a c st d _ 5 _ [⟨a67,c67,[A2 [80,82,79,67]]⟩,⟨a11,c11,I7 s.names.l⟩,⟨a70,c70,[A2 [40]]⟩,⟨a73,c73,B4 [44] J3 s.fs.l⟩,⟨a75,c75,[A2 [41]]⟩] (T5) _ (Rd.ofPt rfl (by decide) Me) (C2 (iR r67 p67 q67) (C2 (iR r11 p11 q11) (C2 (iR r70 p70 q70) (C2 (iR r73 p73 q73) (C2 (iR r75 p75 q75) K3))))) (by decide) (C2 (by simp) (C2 (a4n s.names.l (by omega)) (C2 (by simp) (C2 (c4B [44] s.fs.l (by omega)) (C2 (by simp) K3))))) (by rw[hT5];simp) (by rw[hT5];exact I3 (I3 (I3 (I3 (a06 (by decide)) (a8N hO.nw)) (a06 (by decide))) (b5k (by decide) fun x hx=>c9Y (hO.fw x hx))) (a06 (by decide))) hn) ?_;rintro _ _ ⟨a77,c77,rfl⟩;refine kQ0 [0,2,4] ?_;refine kA3 ?_;refine xG (G8 a1B.und a1B.size a1B.posz (Ev.tmp rfl) Ek Rr rfl (q:=0) (by omega)) ?_;refine kA3 ?_
 refine WL.perm ((Del.perm (r:=prB b a77 c77 (D0 st (d,T5))) De).trans ((Del.perm (r:=prW a77 c77 (D0 st (d,T5))) De).cons _)) ?_;refine xg (E3 Et Et Et) (hy3 b a77 c77 (D0 st (d,T5)) (d+1) _ (hy1.mono Sb) hy2 (by omega) (Y5 hn)) ?_;rintro _ _ ⟨a85,c85,rfl⟩;refine kQ0 [0,2] ?_;refine kA2 ?_;refine xY Q7 Eb fun b88=>?_
 refine xg (E1 Et) (C9 hg _ 1 _ [[58]] _ Rr (by decide) (by decide)) ?_;rintro _ _ ⟨a89,c89,_,rfl,rfl,rfl⟩;refine xY O3 Eb fun b90=>?_
 refine kR a89 fun p89 q89 r89=>?_
 refine WL.perm ((Del.perm (r:=prB b a85 c85 (C1 (D0 st (d,T5)) (B2 y (d+1)))) De).trans ((Del.perm (r:=prW a85 c85 (C1 (D0 st (d,T5)) (B2 y (d+1)))) De).cons _)) ?_;refine xg (E3 Et Et Et) (I2 hg hp b a85 c85 (C1 (D0 st (d,T5)) (B2 y (d+1))) d _ 1 _ [⟨a89,c89,[A2 [58]]⟩] ([A2 [58]]) _ (Rd.ofPt rfl (by decide) Me) (C2 (iR r89 p89 q89) K3) (by decide) (C2 (by simp) K3) (by simp) ((a06 (by decide))) (a1e _ (Y5 hn))) ?_;rintro _ _ ⟨a91,c91,rfl⟩;rw[show D0 (C1 (D0 st (d,T5)) (B2 y (d+1))) (d,[A2 [58]])=C1 st (G6 s d) by rw[hls,a0V,a0Z,hbe];rfl];refine WL.nil (w0 (prB b a91 c91 (C1 st (G6 s d))::prW a91 c91 (C1 st (G6 s d))::h) ?_);exact⟨a91,c91,rfl⟩;replace c62:=H5 c62;refine kQ2 [0,2,4,6,92] ?_;refine wc (fun c92=>?_) fun c92=>?_
 replace c92:=H7 c92;have hm:=h4 c92;obtain⟨hv1,hv2⟩:=c08 hm;have hv3:=Go.Ty.mayPr_items hm;have hvg:=c00 hm;have hg0:=c9S hv1;have hgm:=List.mem_of_getElem? hg0;have hvr:=hO.v.rd;have hvi:=(hO.v.ok _ hgm).rd;have hvn:=hO.vw _ hgm;have hv3h:=hv3 _ hgm;rw[if_neg c14,if_neg c26,if_neg c45,if_neg c62] at hls;refine kQ4 [0,2,4,6,97] ?_;refine wc (fun c97=>?_) fun c97=>?_
 have d97:s.cs=false:=by simpa using c97
 obtain⟨T4,hT4⟩:∃ T,T=((([A2 [80,82,79,84,79,67,79,76]]++I7 s.names.l)++[A2 [73,83]])++B4 [59] W5 (hdV s.vs.l).items)++[A2 [58]]:=⟨_,rfl⟩;rw[if_pos d97,<- hT4] at hls;refine jE ?_;refine a1j [2,3,5,6,13,14,4096] (.op 0 (.op 1 (.op 4 (.op 7 (.op 8 (.op 9 (.op 10 (.op 11 (.op 12 (.op 2 (.op 3 (.op 5 (.op 6 (.op 13 (.op 14 .nil))))))))))))))) [15,16,17] _ [] F1 (fun _ _ _ h=>a2N h) [0,1,4] (by kernel_rfl) ?_;refine kA6 ?_;refine yG rfl (G8 a46.und a46.size a46.posz (Ev.tmp rfl) Ek Rr rfl (q:=0) (by omega)) ?_;refine kA2 ?_;refine sB rfl Q7 fun b100=>?_
 refine J2 rfl rfl Ef (E1 (Ev.tmp rfl)) (fun fr=>C9 hg _ 1 _ [[80,82,79,84,79,67,79,76]] _ (Rd.fr Rr fr) (by decide) (by decide)) Lb fun a101 c101=>?_
 refine sB rfl Q7 fun b103=>?_
 refine J2 rfl rfl Ef (E1 (Ev.tmp rfl)) (fun fr=>C9 hg _ 1 _ [[73,83]] _ (Rd.fr Rr fr) (by decide) (by decide)) Lb fun a104 c104=>?_
 refine J2 rfl rfl Ef (E3 Et Ek Ef) (fun fr=>b2j 64 W5 [59] _ _ _ (hdV s.vs.l).items _ (hvi.mono Vl Sb) (by omega) (fun x _=>Nat.le_trans (b3U x) (by decide)) (fun x _ h2 _=>b6C hg x h2)) Lb fun a111 c111=>?_
 refine sB rfl Q7 fun b112=>?_
 refine SR.nil rfl rfl ?_;refine xg (E1 Et) (C9 hg _ 1 _ [[58]] _ Rr (by decide) (by decide)) ?_;rintro _ _ ⟨a113,c113,_,rfl,rfl,rfl⟩;refine xY O3 Eb fun b114=>?_
 refine kR a101 fun p101 q101 r101=>?_
 refine kR a11 fun p11 q11 r11=>?_
 refine kR a104 fun p104 q104 r104=>?_
 refine kR a111 fun p111 q111 r111=>?_
 refine kR a113 fun p113 q113 r113=>?_
 refine WL.perm ((Del.perm (r:=prB b a c st) De).trans ((Del.perm (r:=prW a c st) De).cons _)) ?_;refine xg (E3 Et Et Et) (I2 hg hp b a c st d _ 5 _ [⟨a101,c101,[A2 [80,82,79,84,79,67,79,76]]⟩,⟨a11,c11,I7 s.names.l⟩,⟨a104,c104,[A2 [73,83]]⟩,⟨a111,c111,B4 [59] W5 (hdV s.vs.l).items⟩,⟨a113,c113,[A2 [58]]⟩] (T4) _ (Rd.ofPt rfl (by decide) Me) (C2 (iR r101 p101 q101) (C2 (iR r11 p11 q11) (C2 (iR r104 p104 q104) (C2 (iR r111 p111 q111) (C2 (iR r113 p113 q113) K3))))) (by decide) (C2 (by simp) (C2 (a4n s.names.l (by omega)) (C2 (by simp) (C2 (Nat.le_trans (b0y [59] (hdV s.vs.l).items (by omega)) (by decide)) (C2 (by simp) K3))))) (by rw[hT4];simp) (by rw[hT4];exact I3 (I3 (I3 (I3 (a06 (by decide)) (a8N hO.nw)) (a06 (by decide))) c2a) (a06 (by decide))) hn) ?_;rintro _ _ ⟨a115,c115,rfl⟩;rw[show D0 st (d,T4)=C1 st (G6 s d) by rw[hls];rfl];refine kQ0 [] ?_
 refine WC.ret (b4e (h':=prB b a115 c115 (C1 st (G6 s d))::prW a115 c115 (C1 st (G6 s d))::h) (.inl rfl) rfl  Vl Sb ?_);exact⟨a115,c115,rfl⟩;have d97:¬ (s.cs=false):=by simpa using c97
 obtain⟨T6,hT6⟩:∃ T,T=[A2 [80,82,79,84,79,67,79,76]]++I7 s.names.l:=⟨_,rfl⟩;rw[if_neg d97,<- hT6] at hls;refine kQ0 [0,2,4,6] ?_;refine kA2 ?_;refine xY Q7 Eb fun b118=>?_
 refine xg (E1 Et) (C9 hg _ 1 _ [[80,82,79,84,79,67,79,76]] _ Rr (by decide) (by decide)) ?_;rintro _ _ ⟨a119,c119,_,rfl,rfl,rfl⟩;refine kA1 ?_;refine xY O3 Eb fun b121=>?_
 refine kR a119 fun p119 q119 r119=>?_
 refine kR a11 fun p11 q11 r11=>?_
 refine WL.perm ((Del.perm (r:=prB b a c st) De).trans ((Del.perm (r:=prW a c st) De).cons _)) ?_;refine xg (E3 Et Et Et) (I2 hg hp b a c st d _ 2 _ [⟨a119,c119,[A2 [80,82,79,84,79,67,79,76]]⟩,⟨a11,c11,I7 s.names.l⟩] (T6) _ (Rd.ofPt rfl (by decide) Me) (C2 (iR r119 p119 q119) (C2 (iR r11 p11 q11) K3)) (by decide) (C2 (by simp) (C2 (a4n s.names.l (by omega)) K3)) (by rw[hT6];simp) (by rw[hT6];exact I3 (a06 (by decide)) (a8N hO.nw)) hn) ?_;rintro _ _ ⟨a122,c122,rfl⟩;refine kQ0 [0,2,4] ?_;refine kA3 ?_;refine xY Q7 Eb fun b126=>?_
 refine xg (E1 Et) (C9 hg _ 1 _ [[67,65,83,69]] _ Rr (by decide) (by decide)) ?_;rintro _ _ ⟨a127,c127,_,rfl,rfl,rfl⟩;refine xY O3 Eb fun b128=>?_
 refine kR a127 fun p127 q127 r127=>?_
 refine WL.perm ((Del.perm (r:=prB b a122 c122 (D0 st (d,T6))) De).trans ((Del.perm (r:=prW a122 c122 (D0 st (d,T6))) De).cons _)) ?_;refine xg (E3 Et Et Et) (I2 hg hp b a122 c122 (D0 st (d,T6)) (d+1) _ 1 _ [⟨a127,c127,[A2 [67,65,83,69]]⟩] ([A2 [67,65,83,69]]) _ (Rd.ofPt rfl (by decide) Me) (C2 (iR r127 p127 q127) K3) (by decide) (C2 (by simp) K3) (by simp) ((a06 (by decide))) (Y5 hn)) ?_;rintro _ _ ⟨a129,c129,rfl⟩;refine kQ0 [0,2,4] ?_;refine kQ5 [0,2,132,133,134] ?_
 refine B6 [0,2,132,133] rfl (fun μ F' h'=>∃ a9:Option Addr,∃ c9:Nat,∃ j:Nat,(j<=s.vs.l.length)/\s.vs.l.length - j=μ/\F'=[(134,.int .i64 j)]/\prB b a9 c9 (C1 (D0 (D0 st (d,T6)) (d+1,[A2 [67,65,83,69]])) ((s.vs.l.take j).map fun v=>((d+2,I0 v):Ln)))::prW a9 c9 (C1 (D0 (D0 st (d,T6)) (d+1,[A2 [67,65,83,69]])) ((s.vs.l.take j).map fun v=>((d+2,I0 v):Ln)))::h=h') (s.vs.l.length - 0) [(134,.int .i64 0)] (h0:=prB b a129 c129 (C1 (D0 (D0 st (d,T6)) (d+1,[A2 [67,65,83,69]])) ((s.vs.l.take 0).map fun v=>((d+2,I0 v):Ln)))::prW a129 c129 (C1 (D0 (D0 st (d,T6)) (d+1,[A2 [67,65,83,69]])) ((s.vs.l.take 0).map fun v=>((d+2,I0 v):Ln)))::h) ?_ Sb ⟨a129,c129,0,Nat.zero_le _,rfl,rfl,rfl⟩ ?_;exact Su;rintro _ _ _ ⟨a9,c9,j,hj,rfl,rfl,rfl⟩;refine B9 rfl ?_;refine kQ1 [0,2,132,133,134,135] ?_;refine wc (fun c135=>?_) fun c135=>?_
 replace c135:=dT c135;obtain⟨v,hv⟩:=A5 (l:=s.vs.l) (k:=j) (by omega);have hvm:=List.mem_of_getElem? hv;have hvi:=(hO.v.ok _ hvm).rd;have hvn:=hO.vw _ hvm;have hv3v:=hv3 _ hvm;have hst:D0 (C1 (D0 (D0 st (d,T6)) (d+1,[A2 [67,65,83,69]])) ((s.vs.l.take j).map fun v=>((d+2,I0 v):Ln))) (d+2,I0 v)=(C1 (D0 (D0 st (d,T6)) (d+1,[A2 [67,65,83,69]])) ((s.vs.l.take (j+1)).map fun v=>((d+2,I0 v):Ln))):=by rw[a3M hv,List.map_append,List.map_singleton,<- b7J]
 have hvt:I0 v=[G4 v.tag]++a1n [59] (B4 [59] W5 v.items):=rfl;refine kQ0 [0,2,132,133,134] ?_;refine kA2 ?_;refine xW fun b8=>?_
 refine kQ1 [0,2,8,132,133,134] ?_;refine a1j [5,8,9,10,4096] (.op 0 (.op 1 (.op 2 (.op 3 (.op 4 (.op 6 (.op 7 (.op 5 (.op 8 (.op 9 (.op 10 .nil))))))))))) [11] _ [] F1 (fun _ _ _ h=>a2N h) [] (by kernel_rfl) ?_;refine kA2 ?_;refine yG rfl (O7 Et Ek (by omega)) ?_;refine kA4 ?_;refine J2 rfl rfl Ef (E1 Et) (fun fr=>a3n v.tag _ _) Lb fun a143 c143=>?_
 refine J2 rfl rfl Ef (E3 Et Ek Ef) (fun fr=>b2j 64 W5 [59] _ _ _ v.items _ (hvi.mono Vl Sb) (by omega) (fun x _=>Nat.le_trans (b3U x) (by decide)) (fun x _ h2 _=>b6C hg x h2)) Lb fun a146 c146=>?_
 refine J2 rfl rfl Ef (E2 Ek Et) (fun fr=>CT.knowRow Tryz.call65 (a:=a146) (List.mem_append_right _ Me) (fun p9 q9 r9=>b5X hg [59] (by decide) _ _ _ (B4 [59] W5 v.items) _ (Rd.ofRow r9 p9 q9 (List.mem_append_right _ Me)) (Nat.le_trans (b0y [59] v.items (by omega)) (by decide)))) Lb fun a147 c147=>?_
 refine sB rfl O3 fun b148=>?_
 refine SR.nil rfl rfl ?_;refine kR a143 fun p143 q143 r143=>?_
 refine kR a147 fun p147 q147 r147=>?_
 refine WL.perm ((Del.perm (r:=prB b a9 c9 (C1 (D0 (D0 st (d,T6)) (d+1,[A2 [67,65,83,69]])) ((s.vs.l.take j).map fun v=>((d+2,I0 v):Ln)))) De).trans ((Del.perm (r:=prW a9 c9 (C1 (D0 (D0 st (d,T6)) (d+1,[A2 [67,65,83,69]])) ((s.vs.l.take j).map fun v=>((d+2,I0 v):Ln)))) De).cons _)) ?_;refine xg (E3 Et Et Et) (I2 hg hp b a9 c9 (C1 (D0 (D0 st (d,T6)) (d+1,[A2 [67,65,83,69]])) ((s.vs.l.take j).map fun v=>((d+2,I0 v):Ln))) (d+2) _ 2 _ [⟨a143,c143,[G4 v.tag]⟩,⟨a147,c147,a1n [59] (B4 [59] W5 v.items)⟩] (I0 v) _ (Rd.ofPt rfl (by decide) Me) (C2 (iR r143 p143 q143) (C2 (iR r147 p147 q147) K3)) (by decide) (C2 (by simp) (C2 (b8G [59] (b0y [59] v.items (by omega))) K3)) (by rw[hvt];simp) (by rw[hvt];exact I3 (b2U (hvg v hvm)) (c8b (by decide) c2a)) (a1e _ (Y5 (Y5 hn)))) ?_;rintro _ _ ⟨a149,c149,rfl⟩;rw[hst];refine kQ0 [0,2,132,133,134] ?_;refine kA2 ?_
 refine WL.nil (A7 (s.vs.l.length - (j+1)) [(134,.int .i64 (j+1))] (h'':=prB b a149 c149 (C1 (D0 (D0 st (d,T6)) (d+1,[A2 [67,65,83,69]])) ((s.vs.l.take (j+1)).map fun v=>((d+2,I0 v):Ln)))::prW a149 c149 (C1 (D0 (D0 st (d,T6)) (d+1,[A2 [67,65,83,69]])) ((s.vs.l.take (j+1)).map fun v=>((d+2,I0 v):Ln)))::h) (by omega) ?_ Su Sb ⟨a149,c149,j+1,by omega,rfl,rfl,rfl⟩);exact Su;replace c135:=dF c135;rw[List.take_of_length_le (by omega)];refine kQ0 [0,2] ?_;refine kA2 ?_;refine xY Q7 Eb fun b153=>?_
 refine xg (E1 Et) (C9 hg _ 1 _ [[58]] _ Rr (by decide) (by decide)) ?_;rintro _ _ ⟨a154,c154,_,rfl,rfl,rfl⟩;refine xY O3 Eb fun b155=>?_
 refine kR a154 fun p154 q154 r154=>?_
 refine WL.perm ((Del.perm (r:=prB b a9 c9 (C1 (D0 (D0 st (d,T6)) (d+1,[A2 [67,65,83,69]])) (s.vs.l.map fun v=>((d+2,I0 v):Ln)))) De).trans ((Del.perm (r:=prW a9 c9 (C1 (D0 (D0 st (d,T6)) (d+1,[A2 [67,65,83,69]])) (s.vs.l.map fun v=>((d+2,I0 v):Ln)))) De).cons _)) ?_;refine xg (E3 Et Et Et) (I2 hg hp b a9 c9 (C1 (D0 (D0 st (d,T6)) (d+1,[A2 [67,65,83,69]])) (s.vs.l.map fun v=>((d+2,I0 v):Ln))) d _ 1 _ [⟨a154,c154,[A2 [58]]⟩] ([A2 [58]]) _ (Rd.ofPt rfl (by decide) Me) (C2 (iR r154 p154 q154) K3) (by decide) (C2 (by simp) K3) (by simp) ((a06 (by decide))) (a1e _ (Y5 (Y5 hn)))) ?_;rintro _ _ ⟨a156,c156,rfl⟩;rw[show D0 (C1 (D0 (D0 st (d,T6)) (d+1,[A2 [67,65,83,69]])) (s.vs.l.map fun v=>((d+2,I0 v):Ln))) (d,[A2 [58]])=C1 st (G6 s d) by rw[hls,a0V,a0V,a0Z];rfl];refine WL.nil (w0 (prB b a156 c156 (C1 st (G6 s d))::prW a156 c156 (C1 st (G6 s d))::h) ?_);exact⟨a156,c156,rfl⟩;replace c92:=H5 c92
 omega
end
section
open Go.Eng Go.Pc Go.Sx Go
open Go.Xp hiding B D1
open Go.Ty (Ty Vr Tok eqT tyV L5 C0 C3 Y1 zeroK O9 E6 encV F2 prL prV PrOk VOk mayPr hdV)
open Go.Lx (encB D7 textO)
open Go.Ly (Rw S9 F7)
theorem a7d (k:Int):(B3 k).1.t1<=9/\(B3 k).1.e1<=9/\((B3 k).2=true->1<=k/\k<=18):=by
 by_cases h:1<=k/\k<=18
 ·refine⟨?_,?_,fun _=>h⟩ <;>
  (obtain h | h | h | h | h | h | h | h | h | h | h | h | h | h | h | h | h | h:k=1\/k=2\/k=3\/k=4\/k=5\/k=6\/k=7\/k=8\/k=9\/k=10\/k=11\/k=12\/k=13\/k=14\/k=15\/k=16\/k=17\/k=18:=by omega) <;> (rw[h];decide)
 ·have e:B3 k=(us0,false):=by
   unfold B3;repeat rw[if_neg (by omega)]
  rw[e];exact⟨by decide,by decide,nofun⟩
theorem c1X {p:Pr} (h:O0 p=true) (hk:p.k=11):p.pn.l.length=p.ll.length:=by
 unfold O0 at h;split at h
 ·cases h
 ·have key:L9 p (B3 p.k).1=true:=by
   split at h
   ·rw[hk] at h;cases h
   ·exact h
  rw[hk] at key;unfold L9 at key;simp only[Bool.and_eq_true] at key;have:=(F6 key.1.2).2;have e:((B3 11).1).procs=true:=rfl;rw[e] at this;simp only[if_true] at this;omega
def d09 (k:Int) (n:Int) (x:Pr) (d:Int):List Ln:=if k=11 then (d+1,[A2 [80,82,79,67,69,83,83,79,82],⟨3,0,[],IntKind.i32.wrap n⟩])::B2 x (d+2) else B2 x (d+1)
theorem a9g {k:Int} {x:Pr} {d:Int}:∀ {ns:List Int} {l:List Pr} {j:Nat},l[j]?=some x->F3 k ns (l.take (j+1)) d=F3 k ns (l.take j) d++d09 k ((ns.drop j).headD 0) x d
 | ns,[],j,h=>by cases h
 | ns,y::l,0,h=>by
  cases h;show(if k=11 then _ else _)++F3 k ns.tail [] d=[]++d09 k (ns.headD 0) x d;rw[show F3 k ns.tail [] d=[] by cases ns.tail <;> rfl,List.append_nil,List.nil_append];rfl
 | ns,y::l,j+1,h=>by
  have ih:=a9g (k:=k) (d:=d) (ns:=ns.tail) (l:=l) (j:=j) (by simpa using h);show(if k=11 then _ else _)++F3 k ns.tail (l.take (j+1)) d=((if k=11 then _ else _)++F3 k ns.tail (l.take j) d)++_;rw[ih,List.append_assoc];cases ns <;> simp
theorem a7J {d:Int} {g:Gu}:∀ {l:List Gu} {j:Nat},l[j]?=some g->D2 (l.take (j+1)) d=D2 (l.take j) d++V9 g d
 | [],j,h=>by cases h
 | y::l,0,h=>by
  cases h;exact List.append_nil _
 | y::l,j+1,h=>by
  have ih:=a7J (d:=d) (l:=l) (j:=j) (by simpa using h);show V9 y d++D2 (l.take (j+1)) d=(V9 y d++D2 (l.take j) d)++_;rw[ih,List.append_assoc]
theorem c0e (p:Pr) (d:Int):B2 p d=if p.k=18 then G6 p.sp d++a1p p.ll d else (d,A3 p.k p.name p.ch p.tg.l p.ex.l p.rep)::(F3 p.k p.pn.l p.ll d++D2 p.gl (d+1)):=by cases p;rfl
theorem c6c {l:List Int} {j:Nat} {y:Int} (h:l[j]?=some y):(l.drop j).headD 0=y:=by
 have h1:=(List.getElem?_eq_some_iff.1 h);rw[List.drop_eq_getElem_cons h1.1];exact h1.2
theorem c9C (v:Int):-2147483648<=IntKind.i32.wrap v/\IntKind.i32.wrap v<=2147483647:=by
 unfold IntKind.wrap;simp[IntKind.bits,IntKind.signed];omega
theorem c8F (y:Int):TkL [A2 [80,82,79,67,69,83,83,79,82],⟨3,0,[],IntKind.i32.wrap y⟩]:=a9f (a06 (by decide)) (fun x hx=>by
 rw[List.mem_singleton] at hx;subst hx;exact⟨c9C y,Nat.zero_le _⟩)
set_option maxHeartbeats 4000000 in
theorem c1p {m:View} (hg:Glob m) (hp:Pow m) (p:Pr):PRC m p:=by
 refine Pr.ind (q:=fun p=>PRC m p) (fun p ih b a c st d h hP hv hd hn=>?_) p;have hV:=hv.own;have hO:=hP.own;have hkk:=(a7d p.k).2.2 hV.kd;have hls:=c0e p d;have hrl:=hO.l;have hrn:=hO.pn;have hrg:=hO.g;have hlx:=Nat.le_trans hrl.le hrl.mx;have hgx:=Nat.le_trans hrg.le hrg.mx;have hpl:O0 p=true:=by cases hv with | mk q _=>exact q
 refine CT.body Tryz.call25 Tryz.func25 rfl Tryz.ntmps25 Lb rfl ?_;refine j0 ?_;refine xX fun b4=>?_
 refine kQ0 [0,2,4] ?_;refine kQ3 [0,2,4,12] ?_;refine wc (fun c12=>?_) fun c12=>?_
 replace c12:=H7 c12;have hrp:p.rep.name=[]:=by
  by_cases e:p.rep.name=[]
  ·exact e
  ·have:=hV.rp e;rw[c12] at this;cases this
 have hpn:=hV.pn hrp;rw[c12] at hpn;have hl1:p.ll.length=1:=by
  have e1:(B3 18).1.p0=1:=rfl;have e2:(B3 18).1.p1=1:=rfl;rw[e1,e2] at hpn;omega
 obtain⟨y,hy⟩:=A5 (l:=p.ll) (k:=0) (by omega);have hin:In y p:=.l (List.mem_of_getElem? hy);have hle:p.ll=[y]:=by
  cases hb:p.ll with
  | nil=>rw[hb] at hy;cases hy
  | cons z r=>
   rw[hb] at hy hl1;cases hy;cases r with
   | nil=>rfl
   | cons u v=>simp at hl1
 have hlt:=hin.lt;rw[if_pos c12] at hls;refine kA4 ?_;refine WL.perm ((Del.perm (r:=prB b a c st) De).trans ((Del.perm (r:=prW a c st) De).cons _)) ?_;refine xg (E3 Et Et Et) (c4Q hg hp p.sp b a c st d _ (hO.sp.mono Sb) (hV.sp (by rw[c12];rfl)) (fun x hx=>⟨(hP.sub (.s hx)).mono Sb,hv.sub (.s hx),ih x (.s hx),by have:=(In.s hx).lt;omega⟩) (by omega) hn) ?_;rintro _ _ ⟨a17,c17,rfl⟩;refine kQ0 [0,2,4] ?_;refine kA3 ?_;refine xG (G8 a1B.und a1B.size a1B.posz (Ev.tmp rfl) Ek Rr rfl (q:=0) (by omega)) ?_;refine kA2 ?_;refine WL.perm ((Del.perm (r:=prB b a17 c17 (C1 st (G6 p.sp d))) De).trans ((Del.perm (r:=prW a17 c17 (C1 st (G6 p.sp d))) De).cons _)) ?_;refine xg (E3 Et Et Et) (ih y hin b a17 c17 (C1 st (G6 p.sp d)) d _ ((hP.sub hin).mono Sb) (hv.sub hin) (by omega) (a1e _ hn)) ?_;rintro _ _ ⟨a24,c24,rfl⟩;rw[show C1 (C1 st (G6 p.sp d)) (B2 y d)=C1 st (B2 p d) by rw[hls,a0Z,hle];rfl]
 refine kQ0 [] ?_;refine WC.ret (b4e (h':=prB b a24 c24 (C1 st (B2 p d))::prW a24 c24 (C1 st (B2 p d))::h) (.inl rfl) rfl  Vl Sb ?_);exact⟨a24,c24,rfl⟩;replace c12:=H5 c12;rw[if_neg c12] at hls;have hTg:p.tg.l.length<=9:=by
  have h1:=hV.tn.2;have h2:=(a7d p.k).1;omega
 have hEx:p.ex.l.length<=9:=by
  have h1:=hV.en.2;have h2:=(a7d p.k).2.1;omega
 refine kQ0 [0,2,4] ?_;refine kA3 ?_;refine WL.perm ((Del.perm (r:=prB b a c st) De).trans ((Del.perm (r:=prW a c st) De).cons _)) ?_;refine xg (E3 Et Et Et) (c1J hg hp p b a c st d _ (hO.mono Sb) hTg hEx (by omega) (c0h hO) hn) ?_;rintro _ _ ⟨a28,c28,rfl⟩;refine kQ0 [0,2,4] ?_;refine kQ4 [0,2,4,30,31,32] ?_
 refine B6 [0,2,4,30,31] rfl (fun μ F' h'=>∃ a9:Option Addr,∃ c9:Nat,∃ j:Nat,(j<=p.ll.length)/\p.ll.length - j=μ/\F'=[(32,.int .i64 j)]/\prB b a9 c9 (C1 (D0 st (d,A3 p.k p.name p.ch p.tg.l p.ex.l p.rep)) (F3 p.k p.pn.l (p.ll.take j) d))::prW a9 c9 (C1 (D0 st (d,A3 p.k p.name p.ch p.tg.l p.ex.l p.rep)) (F3 p.k p.pn.l (p.ll.take j) d))::.pt b4 (.cells (prE p).toArray 52 (0,0))::h=h') (p.ll.length - 0) [(32,.int .i64 0)] (h0:=prB b a28 c28 (C1 (D0 st (d,A3 p.k p.name p.ch p.tg.l p.ex.l p.rep)) (F3 p.k p.pn.l (p.ll.take 0) d))::prW a28 c28 (C1 (D0 st (d,A3 p.k p.name p.ch p.tg.l p.ex.l p.rep)) (F3 p.k p.pn.l (p.ll.take 0) d))::.pt b4 (.cells (prE p).toArray 52 (0,0))::h) ?_ Sb ⟨a28,c28,0,Nat.zero_le _,rfl,rfl,rfl⟩ ?_;exact Su;rintro _ _ _ ⟨a9,c9,j,hj,rfl,rfl,rfl⟩;refine B9 rfl ?_;refine kQ1 [0,2,4,30,31,32,33] ?_;refine wc (fun c33=>?_) fun c33=>?_
 replace c33:=dT c33;obtain⟨x,hx⟩:=A5 (l:=p.ll) (k:=j) (by omega);have hin:In x p:=.l (List.mem_of_getElem? hx);have hlt:=hin.lt;have htk:=a9g (k:=p.k) (d:=d) (ns:=p.pn.l) hx;unfold d09 at htk;have hnj:(C1 (D0 st (d,A3 p.k p.name p.ch p.tg.l p.ex.l p.rep)) (F3 p.k p.pn.l (p.ll.take j) d)).1.length<=2049:=a1e _ (Y5 hn);refine kQ0 [0,2,4,30,31,32] ?_;refine kA3 ?_;refine xW fun b7=>?_
 refine kQ2 [0,2,4,6,7,30,31,32] ?_;refine kQ3 [0,2,4,6,7,30,31,32,39] ?_;refine wc (fun c39=>?_) fun c39=>?_
 replace c39:=H7 c39;have hpk:=c1X hpl c39;obtain⟨y,hy⟩:=A5 (l:=p.pn.l) (k:=j) (by omega);rw[if_pos c39,c6c hy] at htk;refine jE ?_;refine a1j [3,4,12,13,4096] (.op 0 (.op 1 (.op 2 (.op 5 (.op 6 (.op 7 (.op 8 (.op 9 (.op 10 (.op 11 (.op 3 (.op 4 (.op 12 (.op 13 .nil)))))))))))))) [14] _ [] F1 (fun _ _ _ h=>a2N h) [] (by kernel_rfl) ?_;refine kA2 ?_;refine yG rfl (O7 Et Ek (by omega)) ?_;refine kA5 ?_;refine yG rfl (PO.conv uu3 a4e Et) ?_;refine yG rfl (PO.build K4 rfl rfl rfl Eb (by exact rfl)) ?_;refine sB rfl Q7 fun b43=>?_
 refine J2 rfl rfl Ef (E1 (Ev.tmp rfl)) (fun fr=>C9 hg _ 1 _ [[80,82,79,67,69,83,83,79,82]] _ (Rd.fr Rr fr) (by decide) (by decide)) Lb fun a44 c44=>?_
 refine sB rfl B1 fun b52=>?_
 refine sB rfl O3 fun b53=>?_
 refine SR.nil rfl rfl ?_;refine kR a44 fun p44 q44 r44=>?_
 refine WL.perm ((Del.perm (r:=prB b a9 c9 (C1 (D0 st (d,A3 p.k p.name p.ch p.tg.l p.ex.l p.rep)) (F3 p.k p.pn.l (p.ll.take j) d))) De).trans ((Del.perm (r:=prW a9 c9 (C1 (D0 st (d,A3 p.k p.name p.ch p.tg.l p.ex.l p.rep)) (F3 p.k p.pn.l (p.ll.take j) d))) De).cons _)) ?_;refine xg (E3 Et Et Et) (I2 hg hp b a9 c9 (C1 (D0 st (d,A3 p.k p.name p.ch p.tg.l p.ex.l p.rep)) (F3 p.k p.pn.l (p.ll.take j) d)) (d+1) _ 2 _ [⟨a44,c44,[A2 [80,82,79,67,69,83,83,79,82]]⟩,⟨some ⟨b52,0,none⟩,1,[⟨3,0,[],IntKind.i32.wrap y⟩]⟩] [A2 [80,82,79,67,69,83,83,79,82],⟨3,0,[],IntKind.i32.wrap y⟩] _ (Rd.ofPt rfl (by decide) Me) (C2 (iR r44 p44 q44) (C2 (Rd.ofPt rfl (show 1<=9223372036854775807 by decide) Me) K3)) (by decide) (C2 (by simp) (C2 (by simp) K3)) rfl (c8F y) hnj) ?_;rintro _ _ ⟨a54,c54,rfl⟩;refine kQ0 [0,2,4,7,30,31,32] ?_;refine kA4 ?_
 refine WL.perm ((Del.perm (r:=prB b a54 c54 (D0 (C1 (D0 st (d,A3 p.k p.name p.ch p.tg.l p.ex.l p.rep)) (F3 p.k p.pn.l (p.ll.take j) d)) (d+1,[A2 [80,82,79,67,69,83,83,79,82],⟨3,0,[],IntKind.i32.wrap y⟩]))) De).trans ((Del.perm (r:=prW a54 c54 (D0 (C1 (D0 st (d,A3 p.k p.name p.ch p.tg.l p.ex.l p.rep)) (F3 p.k p.pn.l (p.ll.take j) d)) (d+1,[A2 [80,82,79,67,69,83,83,79,82],⟨3,0,[],IntKind.i32.wrap y⟩]))) De).cons _)) ?_;refine xg (E3 Et Et Et) (ih x hin b a54 c54 (D0 (C1 (D0 st (d,A3 p.k p.name p.ch p.tg.l p.ex.l p.rep)) (F3 p.k p.pn.l (p.ll.take j) d)) (d+1,[A2 [80,82,79,67,69,83,83,79,82],⟨3,0,[],IntKind.i32.wrap y⟩])) (d+2) _ ((hP.sub hin).mono Sb) (hv.sub hin) (by omega) (Y5 hnj)) ?_;rintro _ _ ⟨a59,c59,rfl⟩
 rw[show C1 (D0 (C1 (D0 st (d,A3 p.k p.name p.ch p.tg.l p.ex.l p.rep)) (F3 p.k p.pn.l (p.ll.take j) d)) (d+1,[A2 [80,82,79,67,69,83,83,79,82],⟨3,0,[],IntKind.i32.wrap y⟩])) (B2 x (d+2))=(C1 (D0 st (d,A3 p.k p.name p.ch p.tg.l p.ex.l p.rep)) (F3 p.k p.pn.l (p.ll.take (j+1)) d)) by rw[htk,a0Z,a0V]];refine kQ0 [0,2,4,30,31,32] ?_;refine kQ0 [0,2,4,30,31,32] ?_;refine kA2 ?_;refine WL.nil (A7 (p.ll.length - (j+1)) [(32,.int .i64 (j+1))] (h'':=prB b a59 c59 (C1 (D0 st (d,A3 p.k p.name p.ch p.tg.l p.ex.l p.rep)) (F3 p.k p.pn.l (p.ll.take (j+1)) d))::prW a59 c59 (C1 (D0 st (d,A3 p.k p.name p.ch p.tg.l p.ex.l p.rep)) (F3 p.k p.pn.l (p.ll.take (j+1)) d))::.pt b4 (.cells (prE p).toArray 52 (0,0))::h) (by omega) ?_ Su Sb ⟨a59,c59,j+1,by omega,rfl,rfl,rfl⟩);exact Su;replace c39:=H5 c39;rw[if_neg c39] at htk;refine kQ0 [0,2,4,7,30,31,32] ?_;refine kA4 ?_
 refine WL.perm ((Del.perm (r:=prB b a9 c9 (C1 (D0 st (d,A3 p.k p.name p.ch p.tg.l p.ex.l p.rep)) (F3 p.k p.pn.l (p.ll.take j) d))) De).trans ((Del.perm (r:=prW a9 c9 (C1 (D0 st (d,A3 p.k p.name p.ch p.tg.l p.ex.l p.rep)) (F3 p.k p.pn.l (p.ll.take j) d))) De).cons _)) ?_;refine xg (E3 Et Et Et) (ih x hin b a9 c9 (C1 (D0 st (d,A3 p.k p.name p.ch p.tg.l p.ex.l p.rep)) (F3 p.k p.pn.l (p.ll.take j) d)) (d+1) _ ((hP.sub hin).mono Sb) (hv.sub hin) (by omega) hnj) ?_;rintro _ _ ⟨a64,c64,rfl⟩;rw[show C1 (C1 (D0 st (d,A3 p.k p.name p.ch p.tg.l p.ex.l p.rep)) (F3 p.k p.pn.l (p.ll.take j) d)) (B2 x (d+1))=(C1 (D0 st (d,A3 p.k p.name p.ch p.tg.l p.ex.l p.rep)) (F3 p.k p.pn.l (p.ll.take (j+1)) d)) by rw[htk,a0Z]];refine kQ0 [0,2,4,30,31,32] ?_;refine kA2 ?_
 refine WL.nil (A7 (p.ll.length - (j+1)) [(32,.int .i64 (j+1))] (h'':=prB b a64 c64 (C1 (D0 st (d,A3 p.k p.name p.ch p.tg.l p.ex.l p.rep)) (F3 p.k p.pn.l (p.ll.take (j+1)) d))::prW a64 c64 (C1 (D0 st (d,A3 p.k p.name p.ch p.tg.l p.ex.l p.rep)) (F3 p.k p.pn.l (p.ll.take (j+1)) d))::.pt b4 (.cells (prE p).toArray 52 (0,0))::h) (by omega) ?_ Su Sb ⟨a64,c64,j+1,by omega,rfl,rfl,rfl⟩);exact Su;replace c33:=dF c33;rw[List.take_of_length_le (by omega)];refine kQ0 [0,2,4] ?_;refine kQ4 [0,2,67,68,69] ?_
 refine B6 [0,2,67,68] rfl (fun μ F' h'=>∃ a9:Option Addr,∃ c9:Nat,∃ j:Nat,(j<=p.gl.length)/\p.gl.length - j=μ/\F'=[(69,.int .i64 j)]/\prB b a9 c9 (C1 (C1 (D0 st (d,A3 p.k p.name p.ch p.tg.l p.ex.l p.rep)) (F3 p.k p.pn.l p.ll d)) (D2 (p.gl.take j) (d+1)))::prW a9 c9 (C1 (C1 (D0 st (d,A3 p.k p.name p.ch p.tg.l p.ex.l p.rep)) (F3 p.k p.pn.l p.ll d)) (D2 (p.gl.take j) (d+1)))::.pt b4 (.cells (prE p).toArray 52 (0,0))::h=h') (p.gl.length - 0) [(69,.int .i64 0)] (h0:=prB b a9 c9 (C1 (C1 (D0 st (d,A3 p.k p.name p.ch p.tg.l p.ex.l p.rep)) (F3 p.k p.pn.l p.ll d)) (D2 (p.gl.take 0) (d+1)))::prW a9 c9 (C1 (C1 (D0 st (d,A3 p.k p.name p.ch p.tg.l p.ex.l p.rep)) (F3 p.k p.pn.l p.ll d)) (D2 (p.gl.take 0) (d+1)))::.pt b4 (.cells (prE p).toArray 52 (0,0))::h) ?_ Sb ⟨a9,c9,0,Nat.zero_le _,rfl,rfl,rfl⟩ ?_;exact Su;rintro _ _ _ ⟨a9,c9,j,hj,rfl,rfl,rfl⟩;refine B9 rfl ?_;refine kQ1 [0,2,67,68,69,70] ?_
 refine wc (fun c70=>?_) fun c70=>?_
 replace c70:=dT c70;obtain⟨g,hg1⟩:=A5 (l:=p.gl) (k:=j) (by omega);have hgm:=List.mem_of_getElem? hg1;have hnj:(C1 (C1 (D0 st (d,A3 p.k p.name p.ch p.tg.l p.ex.l p.rep)) (F3 p.k p.pn.l p.ll d)) (D2 (p.gl.take j) (d+1))).1.length<=2049:=a1e _ (a1e _ (Y5 hn));refine kQ0 [0,2,67,68,69] ?_;refine kA2 ?_;refine xW fun b9=>?_
 refine kQ1 [0,2,9,67,68,69] ?_;refine kA4 ?_;refine WL.perm ((Del.perm (r:=prB b a9 c9 (C1 (C1 (D0 st (d,A3 p.k p.name p.ch p.tg.l p.ex.l p.rep)) (F3 p.k p.pn.l p.ll d)) (D2 (p.gl.take j) (d+1)))) De).trans ((Del.perm (r:=prW a9 c9 (C1 (C1 (D0 st (d,A3 p.k p.name p.ch p.tg.l p.ex.l p.rep)) (F3 p.k p.pn.l p.ll d)) (D2 (p.gl.take j) (d+1)))) De).cons _)) ?_;refine xg (E3 Et Et Et) (c0p hg hp g b a9 c9 (C1 (C1 (D0 st (d,A3 p.k p.name p.ch p.tg.l p.ex.l p.rep)) (F3 p.k p.pn.l p.ll d)) (D2 (p.gl.take j) (d+1))) (d+1) _ ((hO.gs g hgm).mono Sb) (hV.gs g hgm).1 (fun x hx=>⟨(hP.sub (.g hgm hx)).mono Sb,hv.sub (.g hgm hx),ih x (.g hgm hx),by have:=(In.g hgm hx).lt;omega⟩) (by have:=a7B p;omega) hnj) ?_;rintro _ _ ⟨a77,c77,rfl⟩
 rw[show C1 (C1 (C1 (D0 st (d,A3 p.k p.name p.ch p.tg.l p.ex.l p.rep)) (F3 p.k p.pn.l p.ll d)) (D2 (p.gl.take j) (d+1))) (V9 g (d+1))=(C1 (C1 (D0 st (d,A3 p.k p.name p.ch p.tg.l p.ex.l p.rep)) (F3 p.k p.pn.l p.ll d)) (D2 (p.gl.take (j+1)) (d+1))) by rw[a7J hg1,a0Z]];refine kQ0 [0,2,67,68,69] ?_;refine kA2 ?_;refine WL.nil (A7 (p.gl.length - (j+1)) [(69,.int .i64 (j+1))] (h'':=prB b a77 c77 (C1 (C1 (D0 st (d,A3 p.k p.name p.ch p.tg.l p.ex.l p.rep)) (F3 p.k p.pn.l p.ll d)) (D2 (p.gl.take (j+1)) (d+1)))::prW a77 c77 (C1 (C1 (D0 st (d,A3 p.k p.name p.ch p.tg.l p.ex.l p.rep)) (F3 p.k p.pn.l p.ll d)) (D2 (p.gl.take (j+1)) (d+1)))::.pt b4 (.cells (prE p).toArray 52 (0,0))::h) (by omega) ?_ Su Sb ⟨a77,c77,j+1,by omega,rfl,rfl,rfl⟩);exact Su;replace c70:=dF c70
 rw[List.take_of_length_le (by omega),show C1 (C1 (D0 st (d,A3 p.k p.name p.ch p.tg.l p.ex.l p.rep)) (F3 p.k p.pn.l p.ll d)) (D2 p.gl (d+1))=C1 st (B2 p d) by rw[hls,a0V,a0Z]];refine WC.exit (b4e (h':=prB b a9 c9 (C1 st (B2 p d))::prW a9 c9 (C1 st (B2 p d))::h) (.inr rfl) rfl  Vl Sb ?_);exact⟨a9,c9,rfl⟩
end
section
open Go.Eng Go.Pc Go.Sx Go
open Go.Xp hiding B D1
open Go.Ty (Ty Vr Tok eqT tyV L5 C0 C3 Y1 zeroK O9 E6 encV F2)
open Go.Lx (encB D7 textO)
open Go.Ly (Rw S9 F7)
theorem c3d (l:List Tok):(textO l).1.length<=256:=by
 unfold Go.Lx.textO;split
 ·exact Nat.zero_le _
 ·split
  ·exact Nat.zero_le _
  ·rename_i h
   simp only[decide_eq_true_eq] at h;show(Go.Lx.textL none l).length<=256;omega
theorem b7s {st:Ps} {x:Ln} (h:∀ y ∈ st.1,y.text.length<=256):∀ y ∈ (D0 st x).1,y.text.length<=256:=by
 unfold D0;split
 ·exact h
 ·intro y hy
  rcases List.mem_append.1 hy with q | q
  ·exact h y q
  ·rw[List.mem_singleton] at q
   subst q;exact c3d _
theorem a9e:∀ (l:List Ln) {st:Ps},(∀ y ∈ st.1,y.text.length<=256)->∀ y ∈ (C1 st l).1,y.text.length<=256
 | [],_,h=>h
 | x::l,_,h=>a9e l (b7s (x:=x) h)
abbrev d1L (m:View) (p:Pr) (h:List Res) (v:Value) (h':List Res):Prop:=
 ∃ a c bl,v=.tuple #[.slice a (R0 p).1.length c,.int .i64 (R0 p).2]/\Rd m bl a (R0 p).1.length c 3 (fl S9 (R0 p).1)/\h'=bl++h/\((R0 p).2=0->bl=[.row (.slice a (R0 p).1.length c) 26 3 (R0 p).1.length (fl S9 (R0 p).1)])
set_option maxHeartbeats 4000000 in
theorem b4H {m:View} (hg:Glob m) (hp:Pow m) (p:Pr) (h:List Res) (hO:POk m h p) :
 CT Tryz.prog 12 [prV p] h m (fun v _ h'=>d1L m p h v h'):=by
 have hq:R0 p=if mayP p then (if (C1 ([],false) (B2 p 0)).2||!Go.Ly.mayP (C1 ([],false) (B2 p 0)).1 then ([],3) else ((C1 ([],false) (B2 p 0)).1,0)) else ([],2):=rfl
 have hsh:=a9e (B2 p 0) (st:=([],false)) nofun;obtain⟨ST,hST⟩:∃ S,S=C1 ([],false) (B2 p 0):=⟨_,rfl⟩;rw[<- hST] at hq hsh;refine CT.body Tryz.call12 Tryz.func12 rfl Tryz.ntmps12 Lb rfl ?_;refine j0 ?_;refine xX fun b1=>?_
 refine kQ2 [1] ?_;refine kA1 ?_;refine xf (E1 Et) (a7w hg p (hO.mono Sb)) ?_;refine kQ1 [1,7] ?_;refine wc (fun c7=>?_) fun c7=>?_
 have d7:mayP p=false:=by simpa using c7
 rw[if_neg (K1 d7)] at hq;refine kQ2 [2,3] ?_;refine w2 h ?_;exact⟨none,0,[],by rw[hq];rfl,by rw[hq];exact Rd.nilF S9 3 _ _,rfl,by rw[hq];intro e;cases e⟩;have d7:mayP p=true:=by simpa using c7
 rw[if_pos d7] at hq;obtain⟨hv,hc⟩:=c2d d7;refine kQ0 [1] ?_;refine kA1 ?_;refine xX fun b9=>?_
 refine kQ1 [1,4] ?_;refine kA2 ?_;refine WL.addNil 26 3 ?_;refine WL.perm ((Del.perm (r:=prB b9 none 0 ([],false)) De).trans ((Del.perm (r:=prW none 0 ([],false)) De).cons _)) ?_;refine xg (E3 Et Et Ek) (c1p hg hp p b9 none 0 ([],false) 0 _ (hO.mono Sb) hv ⟨by omega,by omega⟩ (Nat.zero_le _)) ?_;rintro _ _ ⟨a12,c12,rfl⟩;rw[<- hST];refine kR a12 fun p12 q12 r12=>?_
 refine kQ0 [4] ?_;refine kA6 ?_;refine zG (fun hc=>PO.nilCheck (Eg hc)) ?_;refine kA2 ?_;refine A9 (GU.f rfl rfl) (fun hc=>⟨Ef,(E1 (Eg hc)),Ly7.may_ct hg a12 _ c12 ST.1 _ (iR r12 p12 q12) (fun x hx=>by have:=hsh x hx;omega)⟩) Lb ?_;refine kQ2 [4,24] ?_;refine wc (fun c24=>?_) fun c24=>?_
 rw[if_pos (by simpa using c24)] at hq;refine kQ2 [2,3] ?_;refine w2 h ?_;exact⟨none,0,[],by rw[hq];rfl,by rw[hq];exact Rd.nilF S9 3 _ _,rfl,by rw[hq];intro e;cases e⟩;rw[if_neg (by simpa using c24)] at hq;refine kQ0 [4] ?_;refine kQ6 [2,3] ?_;refine w2 (prW a12 c12 ST::h) ?_;exact⟨a12,c12,[prW a12 c12 ST],by rw[hq],by rw[hq];exact Rd.ofRow r12 p12 q12 (List.mem_singleton.2 rfl),rfl,fun _=>by rw[hq]⟩
end
section
open Go.Eng Go.Xp Go
open Go.Lx (encB D7)
end
section
open Go.Eng Go.Pc Go
open Go.Xp hiding B D1
open Go.Ty (Ty Vr eqT tyV L5 PrOk VOk prL encV F2 O9 E6)
open Go.Lx (encB D7)
end
section
open Go.Eng Go.Pc Go
open Go.Xp hiding B D1
open Go.Ty (Ty Vr eqT tyV L5 PrOk VOk encV F2 O9 E6 eqI a4b a3X)
open Go.Lx (encB D7)
def eqB (x y:B):Bool:=x==y
theorem d03 {x y:B} (h:(!(x==y))=true):eqB x y=false:=by simpa [eqB] using h
theorem d05 {x y:B} (h:(!(x==y))=false):eqB x y=true:=by simpa [eqB] using h
theorem b7C (s1 s2:Option Addr) (n1 c1 n2 c2:Nat) (xs ys:List _) (h:List Res) (m:View) (h1:Rd m h s1 n1 c1 1 (fl encB xs)) (h2:Rd m h s2 n2 c2 1 (fl encB ys)) :
 CT Tryz.prog 37 [.slice s1 n1 c1,.slice s2 n2 c2] h m (A6 h (.bool (eqL eqB xs ys))):=by
 have l1:=h1.lenF D7 (by decide);have l2:=h2.lenF D7 (by decide);have m1:=h1.mx;have m2:=h2.mx;have k1:=h1.le;have k2:=h2.le;refine CT.body Tryz.call37 Tryz.func37 rfl Tryz.ntmps37 Lb rfl ?_;refine kQ1 [0,1] ?_;refine kQ5 [0,1,10] ?_;refine wc (fun c10=>?_) fun c10=>?_
 replace c10:=a2J c10;refine kQ1 [4] ?_;refine wT h ?_;exact⟨by rw[V1 _ _ _ (by omega)],rfl⟩;replace c10:=a2I c10;refine kQ0 [0,1] ?_;refine kQ1 [0,1,5] ?_;refine B6 [0,1] rfl (fun μ F' h'=>∃ k:Nat,(k<=n1/\eqL eqB xs ys=eqL eqB (xs.drop k) (ys.drop k))/\n1 - k=μ/\F'=[(5,.int .i64 k)]/\h=h') (n1 - 0) [(5,.int .i64 0)] (h0:=h) ?_ Sb ⟨0,⟨by omega,by simp⟩,rfl,rfl,rfl⟩ ?_;exact Su;rintro _ _ _ ⟨k,⟨hk,hJ⟩,rfl,rfl,rfl⟩;refine B9 rfl ?_;refine kQ4 [0,1,5,14] ?_;refine wc (fun c14=>?_) fun c14=>?_
 replace c14:=dT c14;obtain⟨x,hx⟩:=A5 (l:=xs) (k:=k) (by omega);obtain⟨y,hy⟩:=A5 (l:=ys) (k:=k) (by omega);rw[R6 _ hx hy] at hJ;refine kQ0 [0,1,5] ?_;refine dS [] (.op 0 (.op 1 (.op 2 (.op 3 (.op 4 (.op 5 (.op 6 (.op 7 .nil)))))))) [8] F1 ?_;refine kA8 ?_;refine SR.nil rfl rfl ?_;refine xG (V0 Et Et) ?_;refine kQ0 [0,1,5,25] ?_;refine wc (fun c25=>?_) fun c25=>?_
 refine kQ1 [4] ?_;refine wT h ?_;exact⟨by rw[hJ,d03 c25];rfl,rfl⟩;rw[d05 c25,Bool.true_and] at hJ;refine kQ0 [0,1,5] ?_;refine kA3 ?_;refine WL.nil (A7 (n1 - (k+1)) [(5,.int .i64 (k+1))] (h'':=h) (by omega) ?_ Su Sb ⟨k+1,⟨by omega,hJ⟩,rfl,rfl,rfl⟩);exact Su;replace c14:=dF c14;refine kQ0 [] ?_;refine kQ1 [4] ?_;refine wT h ?_;exact⟨by rw[hJ,List.drop_eq_nil_of_le (by omega),List.drop_eq_nil_of_le (by omega)];rfl,rfl⟩
theorem b0I (s1 s2:Option Addr) (n1 c1 n2 c2:Nat) (xs ys:List _) (h:List Res) (m:View) (h1:Rd m h s1 n1 c1 1 (fl O9 xs)) (h2:Rd m h s2 n2 c2 1 (fl O9 ys)) :
 CT Tryz.prog 56 [.slice s1 n1 c1,.slice s2 n2 c2] h m (A6 h (.bool (eqL eqI xs ys))):=by
 have l1:=h1.lenF E6 (by decide);have l2:=h2.lenF E6 (by decide);have m1:=h1.mx;have m2:=h2.mx;have k1:=h1.le;have k2:=h2.le;refine CT.body Tryz.call56 Tryz.func56 rfl Tryz.ntmps56 Lb rfl ?_;refine kQ1 [0,1] ?_;refine kQ5 [0,1,10] ?_;refine wc (fun c10=>?_) fun c10=>?_
 replace c10:=a2J c10;refine kQ1 [4] ?_;refine wT h ?_;exact⟨by rw[V1 _ _ _ (by omega)],rfl⟩;replace c10:=a2I c10;refine kQ0 [0,1] ?_;refine kQ1 [0,1,5] ?_;refine B6 [0,1] rfl (fun μ F' h'=>∃ k:Nat,(k<=n1/\eqL eqI xs ys=eqL eqI (xs.drop k) (ys.drop k))/\n1 - k=μ/\F'=[(5,.int .i64 k)]/\h=h') (n1 - 0) [(5,.int .i64 0)] (h0:=h) ?_ Sb ⟨0,⟨by omega,by simp⟩,rfl,rfl,rfl⟩ ?_;exact Su;rintro _ _ _ ⟨k,⟨hk,hJ⟩,rfl,rfl,rfl⟩;refine B9 rfl ?_;refine kQ4 [0,1,5,14] ?_;refine wc (fun c14=>?_) fun c14=>?_
 replace c14:=dT c14;obtain⟨x,hx⟩:=A5 (l:=xs) (k:=k) (by omega);obtain⟨y,hy⟩:=A5 (l:=ys) (k:=k) (by omega);rw[R6 _ hx hy] at hJ;refine kQ0 [0,1,5] ?_;refine dS [] (.op 0 (.op 1 (.op 2 (.op 3 (.op 4 (.op 5 (.op 6 (.op 7 .nil)))))))) [8] F1 ?_;refine kA8 ?_;refine SR.nil rfl rfl ?_;refine kQ1 [0,1,5,25] ?_;refine wc (fun c25=>?_) fun c25=>?_
 refine kQ1 [4] ?_;refine wT h ?_;exact⟨by rw[hJ,a3X c25];rfl,rfl⟩;rw[a4b c25,Bool.true_and] at hJ;refine kQ0 [0,1,5] ?_;refine kA3 ?_;refine WL.nil (A7 (n1 - (k+1)) [(5,.int .i64 (k+1))] (h'':=h) (by omega) ?_ Su Sb ⟨k+1,⟨by omega,hJ⟩,rfl,rfl,rfl⟩);exact Su;replace c14:=dF c14;refine kQ0 [] ?_;refine kQ1 [4] ?_;refine wT h ?_;exact⟨by rw[hJ,List.drop_eq_nil_of_le (by omega),List.drop_eq_nil_of_le (by omega)];rfl,rfl⟩
structure GK (m:View) (h:List Res) (g:Gu):Prop where
 o:GOk m h g
 b:∀ x ∈ g.bl,POk m h x
theorem GK.mono {m:View} {h h':List Res} {g:Gu} (q:GK m h g) (r:h.Sublist h'):GK m h' g:=⟨q.o.mono r,fun x hx=>(q.b x hx).mono r⟩
theorem a3H (xs:List Ex) (ys:List Ex) (s1 s2:Option Addr) (n1 c1 n2 c2:Nat) (h:List Res) (m:View) (h1:Rd m h s1 n1 c1 6 (fl exE xs)) (h2:Rd m h s2 n2 c2 6 (fl exE ys)) (o1:∀ x ∈ xs,TOk m h x) (o2:∀ x ∈ ys,TOk m h x) :
 CT Tryz.prog 21 [.slice s1 n1 c1,.slice s2 n2 c2] h m (A6 h (.bool (eqL C7 xs ys))):=by
 have l1:=h1.lenF a3T (by decide);have l2:=h2.lenF a3T (by decide);have m1:=h1.mx;have m2:=h2.mx;have k1:=h1.le;have k2:=h2.le;refine CT.body Tryz.call21 Tryz.func21 rfl Tryz.ntmps21 Lb rfl ?_;refine kQ1 [0,1] ?_;refine kQ5 [0,1,10] ?_;refine wc (fun c10=>?_) fun c10=>?_
 replace c10:=a2J c10;refine kQ1 [4] ?_;refine wT h ?_;exact⟨by rw[V1 _ _ _ (by omega)],rfl⟩;replace c10:=a2I c10;refine kQ0 [0,1] ?_;refine kQ1 [0,1,5] ?_;refine B6 [0,1] rfl (fun μ F' h'=>∃ k:Nat,(k<=n1/\eqL C7 xs ys=eqL C7 (xs.drop k) (ys.drop k))/\n1 - k=μ/\F'=[(5,.int .i64 k)]/\h=h') (n1 - 0) [(5,.int .i64 0)] (h0:=h) ?_ Sb ⟨0,⟨by omega,by simp⟩,rfl,rfl,rfl⟩ ?_;exact Su;rintro _ _ _ ⟨k,⟨hk,hJ⟩,rfl,rfl,rfl⟩;refine B9 rfl ?_;refine kQ4 [0,1,5,14] ?_;refine wc (fun c14=>?_) fun c14=>?_
 replace c14:=dT c14;obtain⟨x,hx⟩:=A5 (l:=xs) (k:=k) (by omega);obtain⟨y,hy⟩:=A5 (l:=ys) (k:=k) (by omega);rw[R6 _ hx hy] at hJ;have hxm:=List.mem_of_getElem? hx;have hxo:=o1 x hxm;have hyo:=o2 y (List.mem_of_getElem? hy);refine kQ0 [0,1,5] ?_;refine dS [] (.op 0 (.op 1 (.op 2 (.op 3 (.op 4 (.op 5 (.op 6 (.op 7 .nil)))))))) [8,9] F1 ?_;refine kA8 ?_;refine SR.nil rfl rfl ?_;refine xf (E2 Et Et) (a2o x y _ _ (hxo.mono Sb) (hyo.mono Sb)) ?_;refine kQ1 [0,1,5,26] ?_;refine wc (fun c26=>?_) fun c26=>?_
 have d26:C7 x y=false:=by simpa using c26
 rw[d26] at hJ;refine kQ1 [4] ?_;refine wT h ?_;exact⟨by rw[hJ];rfl,rfl⟩;have d26:C7 x y=true:=by simpa using c26
 rw[d26,Bool.true_and] at hJ;refine kQ0 [0,1,5] ?_;refine kA3 ?_;refine WL.nil (A7 (n1 - (k+1)) [(5,.int .i64 (k+1))] (h'':=h) (by omega) ?_ Su Sb ⟨k+1,⟨by omega,hJ⟩,rfl,rfl,rfl⟩);exact Su;replace c14:=dF c14;refine kQ0 [] ?_;refine kQ1 [4] ?_;refine wT h ?_;exact⟨by rw[hJ,List.drop_eq_nil_of_le (by omega),List.drop_eq_nil_of_le (by omega)];rfl,rfl⟩
theorem a5S (xs:List Pr) (ih:∀ x ∈ xs,∀ (y:Pr) (h:List Res) (m:View),POk m h x->POk m h y->CT Tryz.prog 11 [prV x,prV y] h m (A6 h (.bool (D6 x y)))) (ys:List Pr) (s1 s2:Option Addr) (n1 c1 n2 c2:Nat) (h:List Res) (m:View) (h1:Rd m h s1 n1 c1 42 (fl prE xs)) (h2:Rd m h s2 n2 c2 42 (fl prE ys)) (o1:∀ x ∈ xs,POk m h x) (o2:∀ x ∈ ys,POk m h x) :
 CT Tryz.prog 23 [.slice s1 n1 c1,.slice s2 n2 c2] h m (A6 h (.bool (eqL D6 xs ys))):=by
 have l1:=h1.lenF a2E (by decide);have l2:=h2.lenF a2E (by decide);have m1:=h1.mx;have m2:=h2.mx;have k1:=h1.le;have k2:=h2.le;refine CT.body Tryz.call23 Tryz.func23 rfl Tryz.ntmps23 Lb rfl ?_;refine kQ1 [0,1] ?_;refine kQ5 [0,1,10] ?_;refine wc (fun c10=>?_) fun c10=>?_
 replace c10:=a2J c10;refine kQ1 [4] ?_;refine wT h ?_;exact⟨by rw[V1 _ _ _ (by omega)],rfl⟩;replace c10:=a2I c10;refine kQ0 [0,1] ?_;refine kQ1 [0,1,5] ?_;refine B6 [0,1] rfl (fun μ F' h'=>∃ k:Nat,(k<=n1/\eqL D6 xs ys=eqL D6 (xs.drop k) (ys.drop k))/\n1 - k=μ/\F'=[(5,.int .i64 k)]/\h=h') (n1 - 0) [(5,.int .i64 0)] (h0:=h) ?_ Sb ⟨0,⟨by omega,by simp⟩,rfl,rfl,rfl⟩ ?_;exact Su;rintro _ _ _ ⟨k,⟨hk,hJ⟩,rfl,rfl,rfl⟩;refine B9 rfl ?_;refine kQ4 [0,1,5,14] ?_;refine wc (fun c14=>?_) fun c14=>?_
 replace c14:=dT c14;obtain⟨x,hx⟩:=A5 (l:=xs) (k:=k) (by omega);obtain⟨y,hy⟩:=A5 (l:=ys) (k:=k) (by omega);rw[R6 _ hx hy] at hJ;have hxm:=List.mem_of_getElem? hx;have hxo:=o1 x hxm;have hyo:=o2 y (List.mem_of_getElem? hy);refine kQ0 [0,1,5] ?_;refine dS [] (.op 0 (.op 1 (.op 2 (.op 3 (.op 4 (.op 5 (.op 6 (.op 7 .nil)))))))) [8,9] F1 ?_;refine kA8 ?_;refine SR.nil rfl rfl ?_;refine xf (E2 Et Et) (ih x hxm y _ _ (hxo.mono Sb) (hyo.mono Sb)) ?_;refine kQ1 [0,1,5,26] ?_;refine wc (fun c26=>?_) fun c26=>?_
 have d26:D6 x y=false:=by simpa using c26
 rw[d26] at hJ;refine kQ1 [4] ?_;refine wT h ?_;exact⟨by rw[hJ];rfl,rfl⟩;have d26:D6 x y=true:=by simpa using c26
 rw[d26,Bool.true_and] at hJ;refine kQ0 [0,1,5] ?_;refine kA3 ?_;refine WL.nil (A7 (n1 - (k+1)) [(5,.int .i64 (k+1))] (h'':=h) (by omega) ?_ Su Sb ⟨k+1,⟨by omega,hJ⟩,rfl,rfl,rfl⟩);exact Su;replace c14:=dF c14;refine kQ0 [] ?_;refine kQ1 [4] ?_;refine wT h ?_;exact⟨by rw[hJ,List.drop_eq_nil_of_le (by omega),List.drop_eq_nil_of_le (by omega)];rfl,rfl⟩
theorem c1P (x y:Int):eqI x y=true↔x=y:=by simp[eqI]
theorem c2O (xs ys:List Int):eqL eqI xs ys=(xs==ys):=by
 rw[Bool.eq_iff_iff,b4n c1P];simp
theorem c4z {m:View} {h:List Res} {v:Vr} (q:VOk m h v):Rd m h v.a v.n v.c 1 (fl O9 v.items):=q.rd
theorem b1E (u1 u2:Bool) (s1 s2:Option Addr) (n1 c1 n2 c2:Nat) (xs ys:List Vr) (h:List Res) (m:View) (p1:PrOk m h s1 n1 c1 xs) (p2:PrOk m h s2 n2 c2 ys) :
 CT Tryz.prog 38 [.agg #[.bool u1,.slice s1 n1 c1],.agg #[.bool u2,.slice s2 n2 c2]] h m (A6 h (.bool (a0P u1 xs u2 ys))):=by
 have h1:=p1.rd;have h2:=p2.rd;have l1:=h1.lenF F2 (by decide);have l2:=h2.lenF F2 (by decide);have m1:=h1.mx;have m2:=h2.mx;have k1:=h1.le;have k2:=h2.le;have e0:a0P u1 xs u2 ys=((u1==u2)&&eqL L1 xs ys):=rfl;refine CT.body Tryz.call38 Tryz.func38 rfl Tryz.ntmps38 Lb rfl ?_;refine j0 ?_;refine xX fun b2=>?_
 refine xX fun b3=>?_
 refine kQ1 [2,3] ?_;refine kA4 ?_;refine xG (c6l uu4 Et Et) ?_;refine kQ9 [2,3,19] ?_;refine wc (fun c19=>?_) fun c19=>?_
 have d19:a0P u1 xs u2 ys=false:=by
  rw[e0];rcases Bool.or_eq_true_iff.1 c19 with c | c
  ·have:(u1==u2)=false:=by simpa using c
   rw[this];rfl
  ·rw[V1 L1 xs ys (by simp at c;omega),Bool.and_false]
 refine kQ1 [4] ?_;refine wT h ?_;exact⟨by rw[d19],rfl⟩;have d19:(u1==u2)=true/\n1=n2:=by
  have:=Bool.or_eq_false_iff.1 c19;exact⟨by simpa using this.1,by have:=this.2;simp at this;omega⟩
 rw[d19.1,Bool.true_and] at e0;refine kQ0 [2,3] ?_;refine kQ1 [2,3,5] ?_;refine B6 [2,3] rfl (fun μ F' h'=>∃ k:Nat,(k<=n1/\a0P u1 xs u2 ys=eqL L1 (xs.drop k) (ys.drop k))/\n1 - k=μ/\F'=[(5,.int .i64 k)]/\.pt b3 (.cells [.bool u2,.slice s2 n2 c2].toArray 47 (0,0))::.pt b2 (.cells [.bool u1,.slice s1 n1 c1].toArray 47 (0,0))::h=h') (n1 - 0) [(5,.int .i64 0)] (h0:=.pt b3 (.cells [.bool u2,.slice s2 n2 c2].toArray 47 (0,0))::.pt b2 (.cells [.bool u1,.slice s1 n1 c1].toArray 47 (0,0))::h) ?_ Sb ⟨0,⟨by omega,by rw[e0];simp⟩,rfl,rfl,rfl⟩ ?_;exact Su;rintro _ _ _ ⟨k,⟨hk,hJ⟩,rfl,rfl,rfl⟩;refine B9 rfl ?_;refine kQ5 [2,3,5,24] ?_;refine wc (fun c24=>?_) fun c24=>?_
 replace c24:=dT c24;obtain⟨x,hx⟩:=A5 (l:=xs) (k:=k) (by omega);obtain⟨y,hy⟩:=A5 (l:=ys) (k:=k) (by omega);rw[R6 _ hx hy] at hJ;have hxo:=c4z (p1.ok x (List.mem_of_getElem? hx));have hyo:=c4z (p2.ok y (List.mem_of_getElem? hy));have hi:=c2O x.items y.items;refine kQ0 [2,3,5] ?_;refine dS [] (.op 0 (.op 1 (.op 2 (.op 3 (.op 4 (.op 5 (.op 6 (.op 7 (.op 8 (.op 9 (.op 10 (.op 11 (.op 12 (.op 13 (.op 14 (.op 15 (.op 16 (.op 17 (.op 18 (.op 19 (.op 20 (.op 21 (.op 22 (.op 23 (.op 24 (.op 25 .nil)))))))))))))))))))))))))) [26,27,28] F1 ?_;refine b0P ?_;refine yG rfl (V0 Et Et) ?_;refine kA1 ?_;refine C6 rfl rfl (GU.f rfl rfl) (fun hc=>PO.fieldAddr c0l rfl (Nat.ne_of_beq_eq_false rfl) Et) Lb ?_;refine C6 rfl rfl (GU.f rfl rfl) (fun hc=>E5 c5C rfl (Eg hc) Me rfl) Lb ?_;refine C6 rfl rfl (GU.f rfl rfl) (fun hc=>PO.move Et) Lb ?_
 refine C6 rfl rfl (GU.f rfl rfl) (fun hc=>G8 a46.und a46.size a46.posz (Eg hc) (Eg hc) (h1.mono Vl Sb) rfl (by omega)) Lb ?_;refine C6 rfl rfl (GU.f rfl rfl) (fun hc=>H8 b2R rfl (Nat.ne_of_beq_eq_false rfl) F2 (Nat.succ_pos _) (h1.mono Vl Sb) (by assumption) (Eg hc)) Lb ?_;refine C6 rfl rfl (GU.f rfl rfl) (fun hc=>H6 b5m rfl F2 (h1.mono Vl Sb) (Eg hc) (by assumption) rfl) Lb ?_;refine C6 rfl rfl (GU.f rfl rfl) (fun hc=>PO.fieldAddr c0l rfl (Nat.ne_of_beq_eq_false rfl) Et) Lb ?_;refine C6 rfl rfl (GU.f rfl rfl) (fun hc=>E5 c5C rfl (Eg hc) Me rfl) Lb ?_;refine C6 rfl rfl (GU.f rfl rfl) (fun hc=>PO.move Et) Lb ?_;refine C6 rfl rfl (GU.f rfl rfl) (fun hc=>G8 a46.und a46.size a46.posz (Eg hc) (Eg hc) (h2.mono Vl Sb) rfl (by omega)) Lb ?_;refine C6 rfl rfl (GU.f rfl rfl) (fun hc=>H8 b2R rfl (Nat.ne_of_beq_eq_false rfl) F2 (Nat.succ_pos _) (h2.mono Vl Sb) (by assumption) (Eg hc)) Lb ?_
 refine C6 rfl rfl (GU.f rfl rfl) (fun hc=>H6 b5m rfl F2 (h2.mono Vl Sb) (Eg hc) (by assumption) rfl) Lb ?_;refine SR.nil rfl rfl ?_;refine A9 (GU.f rfl rfl) (fun hc=>⟨Ef,(E2 (Eg hc) (Eg hc)),b0I _ _ _ _ _ _ x.items y.items _ _ (hxo.mono Vl Sb) (hyo.mono Vl Sb)⟩) Lb ?_;refine kQ2 [2,3,5,55] ?_;refine wc (fun c55=>?_) fun c55=>?_
 replace c55:((!(x.tag==y.tag))||!(eqL eqI x.items y.items))=true:=c55;have d55:L1 x y=false:=by
  unfold L1;rw[<- hi];cases hq:(x.tag==y.tag) <;> cases hr:eqL eqI x.items y.items <;> simp_all
 rw[d55] at hJ;refine kQ1 [4] ?_;refine wT h ?_;exact⟨by rw[hJ];rfl,rfl⟩;replace c55:((!(x.tag==y.tag))||!(eqL eqI x.items y.items))=false:=c55;have d55:L1 x y=true:=by
  unfold L1;rw[<- hi];cases hq:(x.tag==y.tag) <;> cases hr:eqL eqI x.items y.items <;> simp_all
 rw[d55,Bool.true_and] at hJ;refine kQ0 [2,3,5] ?_;refine kA3 ?_;refine WL.nil (A7 (n1 - (k+1)) [(5,.int .i64 (k+1))] (h'':=.pt b3 (.cells [.bool u2,.slice s2 n2 c2].toArray 47 (0,0))::.pt b2 (.cells [.bool u1,.slice s1 n1 c1].toArray 47 (0,0))::h) (by omega) ?_ Su Sb ⟨k+1,⟨by omega,hJ⟩,rfl,rfl,rfl⟩);exact Su;replace c24:=dF c24;refine kQ0 [] ?_;refine kQ1 [4] ?_;refine wT h ?_;exact⟨by rw[hJ,List.drop_eq_nil_of_le (by omega),List.drop_eq_nil_of_le (by omega)];rfl,rfl⟩
theorem b1D (x:Gu) (ih:∀ z ∈ x.bl,∀ (y:Pr) (h:List Res) (m:View),POk m h z->POk m h y->CT Tryz.prog 11 [prV z,prV y] h m (A6 h (.bool (D6 z y)))) (y:Gu) (h:List Res) (m:View) (hx:GK m h x) (hy:GK m h y) :
 CT Tryz.prog 36 [guV x,guV y] h m (A6 h (.bool (N9 x y))):=by
 have v0:m.le m:=Vl;refine CT.body Tryz.call36 Tryz.func36 rfl Tryz.ntmps36 Lb rfl ?_;refine j0 ?_;refine xX fun b2=>?_
 refine xX fun b3=>?_
 refine kQ1 [2,3] ?_;refine b1C ?_;refine zG (fun hc=>Q1 (Eg hc) (Eg hc)) ?_;refine kA6 ?_;refine A9 (GU.t rfl rfl) (fun hc=>⟨Ef,(E2 (Eg hc) (Eg hc)),a2o x.cond y.cond _ _ (hx.o.cond.t.mono Sb) (hy.o.cond.t.mono Sb)⟩) Lb ?_;refine kA6 ?_;refine A9 (GU.t rfl rfl) (fun hc=>⟨Ef,(E2 (Eg hc) (Eg hc)),a2o x.ch y.ch _ _ (hx.o.ch.t.mono Sb) (hy.o.ch.t.mono Sb)⟩) Lb ?_;refine kA6 ?_;refine A9 (GU.t rfl rfl) (fun hc=>⟨Ef,(E2 (Eg hc) (Eg hc)),a2o x.time y.time _ _ (hx.o.time.t.mono Sb) (hy.o.time.t.mono Sb)⟩) Lb ?_;refine kA6 ?_;refine A9 (GU.t rfl rfl) (fun hc=>⟨Ef,(E2 (Eg hc) (Eg hc)),a3H x.tg.l y.tg.l _ _ _ _ _ _ _ _ (hx.o.tg.rd.mono v0 Sb) (hy.o.tg.rd.mono v0 Sb) (fun z hz=>(hx.o.tg.ok z hz).t.mono Sb) (fun z hz=>(hy.o.tg.ok z hz).t.mono Sb)⟩) Lb ?_;refine kA6 ?_
 refine A9 (GU.t rfl rfl) (fun hc=>⟨Ef,(E2 (Eg hc) (Eg hc)),a3H x.vl.l y.vl.l _ _ _ _ _ _ _ _ (hx.o.vl.rd.mono v0 Sb) (hy.o.vl.rd.mono v0 Sb) (fun z hz=>(hx.o.vl.ok z hz).t.mono Sb) (fun z hz=>(hy.o.vl.ok z hz).t.mono Sb)⟩) Lb ?_;refine kA6 ?_;refine A9 (GU.t rfl rfl) (fun hc=>⟨Ef,(E2 (Eg hc) (Eg hc)),a5S x.bl ih y.bl _ _ _ _ _ _ _ _ (hx.o.b.mono v0 Sb) (hy.o.b.mono v0 Sb) (fun z hz=>(hx.b z hz).mono Sb) (fun z hz=>(hy.b z hz).mono Sb)⟩) Lb ?_;refine kQ2 [4] ?_;refine wT h ?_;exact⟨by rw[a5E],rfl⟩
theorem b0i (xs:List Gu) (ih:∀ x ∈ xs,∀ z ∈ x.bl,∀ (y:Pr) (h:List Res) (m:View),POk m h z->POk m h y->CT Tryz.prog 11 [prV z,prV y] h m (A6 h (.bool (D6 z y)))) (ys:List Gu) (s1 s2:Option Addr) (n1 c1 n2 c2:Nat) (h:List Res) (m:View) (h1:Rd m h s1 n1 c1 23 (fl guE xs)) (h2:Rd m h s2 n2 c2 23 (fl guE ys)) (o1:∀ x ∈ xs,GK m h x) (o2:∀ x ∈ ys,GK m h x) :
 CT Tryz.prog 22 [.slice s1 n1 c1,.slice s2 n2 c2] h m (A6 h (.bool (eqL N9 xs ys))):=by
 have l1:=h1.lenF a6f (by decide);have l2:=h2.lenF a6f (by decide);have m1:=h1.mx;have m2:=h2.mx;have k1:=h1.le;have k2:=h2.le;refine CT.body Tryz.call22 Tryz.func22 rfl Tryz.ntmps22 Lb rfl ?_;refine kQ1 [0,1] ?_;refine kQ5 [0,1,10] ?_;refine wc (fun c10=>?_) fun c10=>?_
 replace c10:=a2J c10;refine kQ1 [4] ?_;refine wT h ?_;exact⟨by rw[V1 _ _ _ (by omega)],rfl⟩;replace c10:=a2I c10;refine kQ0 [0,1] ?_;refine kQ1 [0,1,5] ?_;refine B6 [0,1] rfl (fun μ F' h'=>∃ k:Nat,(k<=n1/\eqL N9 xs ys=eqL N9 (xs.drop k) (ys.drop k))/\n1 - k=μ/\F'=[(5,.int .i64 k)]/\h=h') (n1 - 0) [(5,.int .i64 0)] (h0:=h) ?_ Sb ⟨0,⟨by omega,by simp⟩,rfl,rfl,rfl⟩ ?_;exact Su;rintro _ _ _ ⟨k,⟨hk,hJ⟩,rfl,rfl,rfl⟩;refine B9 rfl ?_;refine kQ4 [0,1,5,14] ?_;refine wc (fun c14=>?_) fun c14=>?_
 replace c14:=dT c14;obtain⟨x,hx⟩:=A5 (l:=xs) (k:=k) (by omega);obtain⟨y,hy⟩:=A5 (l:=ys) (k:=k) (by omega);rw[R6 _ hx hy] at hJ;have hxm:=List.mem_of_getElem? hx;have hxo:=o1 x hxm;have hyo:=o2 y (List.mem_of_getElem? hy);refine kQ0 [0,1,5] ?_;refine dS [] (.op 0 (.op 1 (.op 2 (.op 3 (.op 4 (.op 5 (.op 6 (.op 7 .nil)))))))) [8,9] F1 ?_;refine kA8 ?_;refine SR.nil rfl rfl ?_;refine xf (E2 Et Et) (b1D x (ih x hxm) y _ _ (hxo.mono Sb) (hyo.mono Sb)) ?_;refine kQ1 [0,1,5,26] ?_;refine wc (fun c26=>?_) fun c26=>?_
 have d26:N9 x y=false:=by simpa using c26
 rw[d26] at hJ;refine kQ1 [4] ?_;refine wT h ?_;exact⟨by rw[hJ];rfl,rfl⟩;have d26:N9 x y=true:=by simpa using c26
 rw[d26,Bool.true_and] at hJ;refine kQ0 [0,1,5] ?_;refine kA3 ?_;refine WL.nil (A7 (n1 - (k+1)) [(5,.int .i64 (k+1))] (h'':=h) (by omega) ?_ Su Sb ⟨k+1,⟨by omega,hJ⟩,rfl,rfl,rfl⟩);exact Su;replace c14:=dF c14;refine kQ0 [] ?_;refine kQ1 [4] ?_;refine wT h ?_;exact⟨by rw[hJ,List.drop_eq_nil_of_le (by omega),List.drop_eq_nil_of_le (by omega)];rfl,rfl⟩
structure SK (m:View) (h:List Res) (s:Sp):Prop where
 o:SOk m h s
 b:∀ x ∈ s.bl,POk m h x
theorem SK.mono {m:View} {h h':List Res} {s:Sp} (q:SK m h s) (r:h.Sublist h'):SK m h' s:=⟨q.o.mono r,fun x hx=>(q.b x hx).mono r⟩
theorem c2s {x y:Fo} (h:(!(a0n x y))=true):a0n x y=false:=by simpa using h
theorem c3A {x y:Fo} (h:(!(a0n x y))=false):a0n x y=true:=by simpa using h
set_option maxHeartbeats 1000000 in
theorem b3H (x:Sp) (ih:∀ z ∈ x.bl,∀ (y:Pr) (h:List Res) (m:View),POk m h z->POk m h y->CT Tryz.prog 11 [prV z,prV y] h m (A6 h (.bool (D6 z y)))) (y:Sp) (h:List Res) (m:View) (hx:SK m h x) (hy:SK m h y) :
 CT Tryz.prog 24 [spV x,spV y] h m (A6 h (.bool (R1 x y))):=by
 have v0:m.le m:=Vl;have f1:=hx.o.fr;have f2:=hy.o.fr;have m1:=f1.mx;have m2:=f2.mx;have k1:=f1.le;have k2:=f2.le;refine CT.body Tryz.call24 Tryz.func24 rfl Tryz.ntmps24 Lb rfl ?_;refine j0 ?_;refine xX fun b2=>?_
 refine xX fun b3=>?_
 refine kQ1 [2,3] ?_;refine b1C ?_;refine F9 (GU.f rfl rfl) (fun hc=>b3y b1P (by kernel_rfl) (by kernel_rfl) (Eg hc) (Eg hc) rfl) Lb ?_;refine c7g [2,3,26] ?_;refine wc (fun c26=>?_) fun c26=>?_
 have d26:R1 x y=false:=c0q c26;refine kQ1 [4] ?_;refine wT h ?_;exact⟨by rw[d26],rfl⟩;have d26:=b7h (x:=x) (y:=y) c26;obtain⟨hlen,e0⟩:=d26;refine kQ0 [2,3] ?_;refine kQ1 [2,3,5] ?_;refine B6 [2,3] rfl (fun μ F' h'=>∃ k:Nat,(k<=x.fs.l.length/\eqL a0n x.fs.l y.fs.l=eqL a0n (x.fs.l.drop k) (y.fs.l.drop k))/\x.fs.l.length - k=μ/\F'=[(5,.int .i64 k)]/\.pt b3 (.cells (spE y).toArray 50 (0,0))::.pt b2 (.cells (spE x).toArray 50 (0,0))::h=h') (x.fs.l.length - 0) [(5,.int .i64 0)] (h0:=.pt b3 (.cells (spE y).toArray 50 (0,0))::.pt b2 (.cells (spE x).toArray 50 (0,0))::h) ?_ Sb ⟨0,⟨by omega,by simp⟩,rfl,rfl,rfl⟩ ?_;exact Su;rintro _ _ _ ⟨k,⟨hk,hJ⟩,rfl,rfl,rfl⟩;refine B9 rfl ?_;refine kQ5 [2,3,5,31] ?_;refine wc (fun c31=>?_) fun c31=>?_
 replace c31:=dT c31;obtain⟨u,hu⟩:=A5 (l:=x.fs.l) (k:=k) (by omega);obtain⟨v,hv⟩:=A5 (l:=y.fs.l) (k:=k) (by omega);rw[R6 _ hu hv] at hJ;refine kQ0 [2,3,5] ?_;refine dS [] (.op 0 (.op 1 (.op 2 (.op 3 (.op 4 (.op 5 (.op 6 (.op 7 (.op 8 (.op 9 .nil)))))))))) [10] F1 ?_;refine b1C ?_;refine SR.nil rfl rfl ?_;refine xG (b4D (o:=43) c1O (by kernel_rfl) (by kernel_rfl) Et Et (by kernel_rfl) rfl) ?_;refine kQ0 [2,3,5,44] ?_;refine wc (fun c44=>?_) fun c44=>?_
 rw[c2s (x:=u) (y:=v) c44] at hJ;refine kQ1 [4] ?_;refine wT h ?_;exact⟨by rw[e0,hJ];rfl,rfl⟩;rw[c3A (x:=u) (y:=v) c44,Bool.true_and] at hJ;refine kQ0 [2,3,5] ?_;refine kA3 ?_;refine WL.nil (A7 (x.fs.l.length - (k+1)) [(5,.int .i64 (k+1))] (h'':=.pt b3 (.cells (spE y).toArray 50 (0,0))::.pt b2 (.cells (spE x).toArray 50 (0,0))::h) (by omega) ?_ Su Sb ⟨k+1,⟨by omega,hJ⟩,rfl,rfl,rfl⟩);exact Su;replace c31:=dF c31;rw[List.drop_eq_nil_of_le (by omega),List.drop_eq_nil_of_le (by omega)] at hJ;refine kQ0 [2,3] ?_;refine kA4 ?_;refine xf (E2 Et Et) (b7C _ _ _ _ _ _ x.names.l y.names.l _ _ (hx.o.nr.mono v0 Sb) (hy.o.nr.mono v0 Sb)) ?_;refine kA5 ?_;refine A9 (GU.t rfl rfl) (fun hc=>⟨Ef,(E2 (Eg hc) (Eg hc)),a2o x.e y.e _ _ (hx.o.e.t.mono Sb) (hy.o.e.t.mono Sb)⟩) Lb ?_;refine kA6 ?_
 refine A9 (GU.t rfl rfl) (fun hc=>⟨Ef,(E2 (Eg hc) (Eg hc)),b1E x.cs y.cs _ _ _ _ _ _ x.vs.l y.vs.l _ _ (hx.o.v.mono v0 Sb) (hy.o.v.mono v0 Sb)⟩) Lb ?_;refine kA6 ?_;refine A9 (GU.t rfl rfl) (fun hc=>⟨Ef,(E2 (Eg hc) (Eg hc)),a5S x.bl ih y.bl _ _ _ _ _ _ _ _ (hx.o.b.mono v0 Sb) (hy.o.b.mono v0 Sb) (fun z hz=>(hx.b z hz).mono Sb) (fun z hz=>(hy.b z hz).mono Sb)⟩) Lb ?_;refine kQ2 [4] ?_;refine wT h ?_;exact⟨by rw[e0,hJ];rfl,rfl⟩
theorem c7L {m:View} {h:List Res} {p:Pr} (q:POk m h p):∀ g ∈ p.gl,GK m h g:=fun g hg=>⟨q.own.gs g hg,fun _ hx=>q.sub (.g hg hx)⟩
theorem c8a {m:View} {h:List Res} {p:Pr} (q:POk m h p):SK m h p.sp:=⟨q.own.sp,fun _ hx=>q.sub (.s hx)⟩
set_option maxHeartbeats 2000000 in
theorem b5p (p:Pr):∀ (q:Pr) (h:List Res) (m:View),POk m h p->POk m h q->CT Tryz.prog 11 [prV p,prV q] h m (A6 h (.bool (D6 p q))):=by
 refine Pr.ind (q:=fun p=>∀ (q:Pr) (h:List Res) (m:View),POk m h p->POk m h q->CT Tryz.prog 11 [prV p,prV q] h m (A6 h (.bool (D6 p q)))) (fun p ih q h m hp hq=>?_) p;have v0:m.le m:=Vl;have e0:=a5T p q;have x1:=hp.own;have y1:=hq.own;have f1:=x1.pn;have f2:=y1.pn;have m1:=f1.mx;have m2:=f2.mx;have k1:=f1.le;have k2:=f2.le;refine CT.body Tryz.call11 Tryz.func11 rfl Tryz.ntmps11 Lb rfl ?_;refine j0 ?_;refine xX fun b2=>?_
 refine xX fun b3=>?_
 refine kQ1 [2,3] ?_;refine kQ7 [2,3,13] ?_;refine wc (fun c13=>?_) fun c13=>?_
 replace c13:=a2J c13;rw[V1 _ p.pn.l q.pn.l (by omega),Bool.false_and] at e0;refine kQ1 [4] ?_;refine wT h ?_;exact⟨by rw[e0],rfl⟩;replace c13:=a2I c13;refine kQ0 [2,3] ?_;refine kQ1 [2,3,5] ?_;refine B6 [2,3] rfl (fun μ F' h'=>∃ k:Nat,(k<=p.pn.l.length/\eqL (fun a b:Int=>a==b) p.pn.l q.pn.l=eqL (fun a b:Int=>a==b) (p.pn.l.drop k) (q.pn.l.drop k))/\p.pn.l.length - k=μ/\F'=[(5,.int .i64 k)]/\.pt b3 (.cells (prE q).toArray 52 (0,0))::.pt b2 (.cells (prE p).toArray 52 (0,0))::h=h') (p.pn.l.length - 0) [(5,.int .i64 0)] (h0:=.pt b3 (.cells (prE q).toArray 52 (0,0))::.pt b2 (.cells (prE p).toArray 52 (0,0))::h) ?_ Sb ⟨0,⟨by omega,by simp⟩,rfl,rfl,rfl⟩ ?_;exact Su;rintro _ _ _ ⟨k,⟨hk,hJ⟩,rfl,rfl,rfl⟩;refine B9 rfl ?_;refine kQ5 [2,3,5,18] ?_;refine wc (fun c18=>?_) fun c18=>?_
 replace c18:=dT c18;obtain⟨u,hu⟩:=A5 (l:=p.pn.l) (k:=k) (by omega);obtain⟨v,hv⟩:=A5 (l:=q.pn.l) (k:=k) (by omega);rw[R6 _ hu hv] at hJ;refine kQ0 [2,3,5] ?_;refine dS [] (.op 0 (.op 1 (.op 2 (.op 3 (.op 4 (.op 5 (.op 6 (.op 7 (.op 8 (.op 9 .nil)))))))))) [10] F1 ?_;refine b1C ?_;refine SR.nil rfl rfl ?_;refine kQ1 [2,3,5,31] ?_;refine wc (fun c31=>?_) fun c31=>?_
 replace c31:=a2J c31;rw[show(u==v)=false by simpa using c31] at hJ;refine kQ1 [4] ?_;refine wT h ?_;exact⟨by rw[e0,hJ];rfl,rfl⟩;replace c31:=a2I c31;rw[show(u==v)=true by simpa using c31,Bool.true_and] at hJ;refine kQ0 [2,3,5] ?_;refine kA3 ?_;refine WL.nil (A7 (p.pn.l.length - (k+1)) [(5,.int .i64 (k+1))] (h'':=.pt b3 (.cells (prE q).toArray 52 (0,0))::.pt b2 (.cells (prE p).toArray 52 (0,0))::h) (by omega) ?_ Su Sb ⟨k+1,⟨by omega,hJ⟩,rfl,rfl,rfl⟩);exact Su;replace c18:=dF c18;rw[List.drop_eq_nil_of_le (by omega),List.drop_eq_nil_of_le (by omega)] at hJ;refine kQ0 [2,3] ?_;refine kA6 ?_;refine xG (Q1 Et Et) ?_;refine kA7 ?_;refine A9 (GU.t rfl rfl) (fun hc=>⟨Ef,(E2 (Eg hc) (Eg hc)),a2o p.rep.base q.rep.base _ _ (x1.rb.t.mono Sb) (y1.rb.t.mono Sb)⟩) Lb ?_;refine kA8 ?_
 refine A9 (GU.t rfl rfl) (fun hc=>⟨Ef,(E2 (Eg hc) (Eg hc)),a2o p.rep.count q.rep.count _ _ (x1.rc.t.mono Sb) (y1.rc.t.mono Sb)⟩) Lb ?_;refine kQ2 [2,3,6] ?_;refine b1C ?_;refine zG (fun hc=>Q1 (Eg hc) (Eg hc)) ?_;refine kA9 ?_;refine A9 (GU.t rfl rfl) (fun hc=>⟨Ef,(E2 (Eg hc) (Eg hc)),a2o p.ch q.ch _ _ (x1.ch.t.mono Sb) (y1.ch.t.mono Sb)⟩) Lb ?_;refine kA6 ?_;refine A9 (GU.t rfl rfl) (fun hc=>⟨Ef,(E2 (Eg hc) (Eg hc)),a3H p.tg.l q.tg.l _ _ _ _ _ _ _ _ (x1.tg.rd.mono v0 Sb) (y1.tg.rd.mono v0 Sb) (fun z hz=>(x1.tg.ok z hz).t.mono Sb) (fun z hz=>(y1.tg.ok z hz).t.mono Sb)⟩) Lb ?_;refine kA6 ?_;refine A9 (GU.t rfl rfl) (fun hc=>⟨Ef,(E2 (Eg hc) (Eg hc)),a3H p.ex.l q.ex.l _ _ _ _ _ _ _ _ (x1.ex.rd.mono v0 Sb) (y1.ex.rd.mono v0 Sb) (fun z hz=>(x1.ex.ok z hz).t.mono Sb) (fun z hz=>(y1.ex.ok z hz).t.mono Sb)⟩) Lb ?_;refine kA6 ?_
 refine A9 (GU.t rfl rfl) (fun hc=>⟨Ef,(E2 (Eg hc) (Eg hc)),b0i p.gl (fun g hg z hz=>ih z (.g hg hz)) q.gl _ _ _ _ _ _ _ _ (x1.g.mono v0 Sb) (y1.g.mono v0 Sb) (fun z hz=>(c7L hp z hz).mono Sb) (fun z hz=>(c7L hq z hz).mono Sb)⟩) Lb ?_;refine kA6 ?_;refine A9 (GU.t rfl rfl) (fun hc=>⟨Ef,(E2 (Eg hc) (Eg hc)),a5S p.ll (fun z hz=>ih z (.l hz)) q.ll _ _ _ _ _ _ _ _ (x1.l.mono v0 Sb) (y1.l.mono v0 Sb) (fun z hz=>(hp.sub (.l hz)).mono Sb) (fun z hz=>(hq.sub (.l hz)).mono Sb)⟩) Lb ?_;refine kA6 ?_;refine A9 (GU.t rfl rfl) (fun hc=>⟨Ef,(E2 (Eg hc) (Eg hc)),b3H p.sp (fun z hz=>ih z (.s hz)) q.sp _ _ ((c8a hp).mono Sb) ((c8a hq).mono Sb)⟩) Lb ?_;refine kQ2 [4] ?_;refine wT h ?_;exact⟨by rw[e0,hJ];rfl,rfl⟩
end
section
open Go.Eng Go.Pc Go.Sx Go
open Go.Xp hiding B D1
open Go.Ty (Ty Vr Tok eqT tyV L5 C0 C3 Y1 zeroK O9 E6 encV F2 VOk PrOk)
open Go.Lx (encB D7 textO)
open Go.Ly (Rw S9 F7 eqR b3z b4v b4s)
theorem c0U {m m':View} (g:Glob m) (h:m.le m'):Glob m':=
 ⟨by obtain⟨x,hx⟩:=g.max;exact⟨x,h.cell hx⟩,fun j v e=>h.cell (g.prim j v e),fun j v e=>h.cell (g.sOne j v e),fun j v e=>h.cell (g.sSome j v e),fun j v e=>h.cell (g.sAll j v e)⟩
section
variable {m m':View} {h h':List Res}
theorem c8A (V:Vw m' h' m h) {e:Ex} (q:TOk m' h' e):TOk m h e:=by
 induction q with
 | mk hr _ ih=>exact .mk (V _ _ _ _ _ hr) ih
theorem a5L (V:Vw m' h' m h) {e:Ex} (q:EOk m' h' e):EOk m h e:=⟨c8A V q.t,q.w⟩
theorem b4b (V:Vw m' h' m h) {s:Sli Ex} (q:LOk m' h' s):LOk m h s:=⟨V _ _ _ _ _ q.rd,fun x hx=>a5L V (q.ok x hx)⟩
theorem c8W (V:Vw m' h' m h) {a:Option Addr} {k c:Nat} {l:List Vr} (q:PrOk m' h' a k c l):PrOk m h a k c l:=⟨V _ _ _ _ _ q.rd,fun v hv=>⟨V _ _ _ _ _ (q.ok v hv).rd⟩,q.tag⟩
theorem c9d (V:Vw m' h' m h) {s:Sp} (q:SOk m' h' s):SOk m h s:=⟨q.k,q.ty,V _ _ _ _ _ q.nr,q.nw,a5L V q.e,c8W V q.v,q.vw,V _ _ _ _ _ q.fr,q.fw,V _ _ _ _ _ q.b⟩
theorem c8S (V:Vw m' h' m h) {g:Gu} (q:GOk m' h' g):GOk m h g:=⟨q.k,q.n,a5L V q.cond,a5L V q.ch,b4b V q.tg,b4b V q.vl,a5L V q.time,V _ _ _ _ _ q.b⟩
theorem d1q (V:Vw m' h' m h) {p:Pr} (q:P1 m' h' p):P1 m h p:=⟨q.k,q.n,a5L V q.ch,b4b V q.tg,b4b V q.ex,q.rn,a5L V q.rb,a5L V q.rc,V _ _ _ _ _ q.g,fun x hx=>c8S V (q.gs x hx),V _ _ _ _ _ q.l,V _ _ _ _ _ q.pn,q.pw,c9d V q.sp⟩
theorem c9U (V:Vw m' h' m h) {p:Pr} (q:POk m' h' p):POk m h p:=by
 induction q with
 | mk o _ ih=>exact .mk (d1q V o) ih
end
theorem b2a {m:View} (hg:Glob m) (ra:Option Addr) (rc:Nat) (R:List Rw) (h:List Res) (ht:∀ x ∈ R,x.text.length<=140737488355328) :
 CT Tryz.prog 10 [.slice ra R.length rc] (.row (.slice ra R.length rc) 26 3 R.length (fl S9 R)::h) m (fun v _ h'=>∃ x hx bl,v=.tuple #[prV x,.int .i64 ((S0 R).2.1:Nat),.int .i64 (S0 R).2.2]/\stP x=(S0 R).1/\POk m (hx++(bl++h)) x/\Rd m hx ra R.length rc 3 (fl S9 R)/\h'=hx++(bl++h)):=
 (CT.lendRow Tryz.call10 fun m' hle hr=>b5s (c0U hg hle) ra rc R h hr ht).mono (by
  rintro v m2 h2 - ⟨m',hx,h3,⟨x,bl,h1,h4,h5,rfl⟩,rfl,V,hr⟩;exact⟨x,hx,bl,h1,h4,c9U V (h5.mono (List.sublist_append_left _ _)),hr,rfl⟩)
theorem b2q {m:View} (hg:Glob m) (ra:Option Addr) (rc:Nat) (R:List Rw) (h:List Res) (ht:∀ x ∈ R,x.text.length<=140737488355328) :
 CT Tryz.prog 10 [.slice ra R.length rc] (.row (.slice ra R.length rc) 26 3 R.length (fl S9 R)::h) m (fun v _ h'=>∃ x hh,v=.tuple #[prV x,.int .i64 ((S0 R).2.1:Nat),.int .i64 (S0 R).2.2]/\stP x=(S0 R).1/\POk m (hh++h) x/\h'=hh++h):=
 (b2a hg ra rc R h ht).mono (by
  rintro v m2 h2 - ⟨x,hx,bl,h1,h4,h5,-,rfl⟩;exact⟨x,hx++bl,h1,h4,by rw[List.append_assoc];exact h5,by rw[List.append_assoc]⟩)
theorem c0y (s:B):(Lib.splitB ⟨#[47]⟩ 0 (Lib.countB ⟨s.toArray⟩ ⟨#[47]⟩) ⟨s.toArray⟩).map (·.data.toList)=O6 s:=by
 rw[Lib.splitB_data];rfl
theorem b8a {m:View} (hg:Glob m) (s:B) (hs:s.length < 4294967281) (h:List Res):CT Tryz.prog 45 [str s,str [47]] h m
 (fun v _ h'=>∃ b,v=.slice (some ⟨b,0,none⟩) (O6 s).length (O6 s).length/\h'=.pt b (.cells (fl encB (O6 s)).toArray 9 (0,0))::h):=by
 obtain⟨x,hx⟩:=hg.max;refine⟨Tryz.call45,fun w st=>Calls.mono (Tryz.strings_Split ⟨s.toArray⟩ ⟨#[47]⟩ x w hs (st.cell hx) (by decide)) ?_⟩;rintro e w' ⟨rfl,rfl⟩;have h1:=c0y s;have h2:Lib.countB ⟨s.toArray⟩ ⟨#[47]⟩+1=(O6 s).length:=by
  rw[<- h1,List.length_map,Lib.splitB_all ⟨#[47]⟩ (by decide) 0 _ ⟨s.toArray⟩ rfl]
 have h3:(Lib.splitB ⟨#[47]⟩ 0 (Lib.countB ⟨s.toArray⟩ ⟨#[47]⟩) ⟨s.toArray⟩).map Value.string=fl encB (O6 s):=by
  rw[<- h1];generalize Lib.splitB ⟨#[47]⟩ 0 (Lib.countB ⟨s.toArray⟩ ⟨#[47]⟩) ⟨s.toArray⟩=l;induction l with
  | nil=>rfl
  | cons y l ih=>
   rw[List.map_cons,List.map_cons,ih];rfl
 rw[h2,h3];exact⟨_,m,_,rfl,Vl,st.alloc _,w.heap.size,rfl,rfl⟩
theorem c07 (s:B) (h:List Res) (m:View):CT Tryz.prog 46 [str s,str [46]] h m (A6 h (str (Lib.trimLeftB s 46))):=
 CT.ofCalls Tryz.call46 fun w _=>Tryz.strings_TrimLeft_one ⟨s.toArray⟩ 46 (by decide) w
theorem b3M {m:View} (hg:Glob m) (s:B) (hs:s.length < 4294967281) (hl:(O6 s).length<=1000) (hp:∀ x ∈ O6 s,x.length<=100000) (h:List Res) :
 CT Tryz.prog 29 [str s] h m (fun v _ h'=>b9R S9 26 3 h (a1f s) v h'):=by
 refine CT.body Tryz.call29 Tryz.func29 rfl Tryz.ntmps29 Lb rfl ?_;refine kQ1 [0] ?_;refine WL.addNil 26 3 ?_;refine kQ1 [0,3] ?_;refine kA1 ?_;refine xg (E2 Et Ek) (b8a hg s hs _) ?_;rintro _ _ ⟨b8,rfl,rfl⟩;refine kQ2 [3,8,9,10] ?_;refine B6 [8,9] rfl (fun μ F' h'=>∃ a3:Option Addr,∃ c3:Nat,∃ j:Nat,∃ r:List Rw,((j<=(O6 s).length/\r.length=j)/\r=a7o 0 ((O6 s).take j))/\(O6 s).length - j=μ/\F'=[(3,.slice a3 r.length c3),(10,.int .i64 j)]/\.pt b8 (.cells (fl encB (O6 s)).toArray 9 (0,0))::.row (.slice a3 r.length c3) 26 3 r.length (fl S9 r)::h=h') ((O6 s).length - 0) [(3,.slice none ([]).length 0),(10,.int .i64 0)] (h0:=.pt b8 (.cells (fl encB (O6 s)).toArray 9 (0,0))::.row (.slice none ([]).length 0) 26 3 ([]).length (fl S9 ([]))::h) ?_ Sb ⟨none,0,0,[],⟨⟨by omega,rfl⟩,rfl⟩,rfl,rfl,rfl⟩ ?_;exact Su;rintro _ _ _ ⟨a3,c3,j,r,⟨⟨hj,hr⟩,hJ⟩,rfl,rfl,rfl⟩;refine B9 rfl ?_
 refine kQ1 [3,8,9,10,11] ?_;refine wc (fun c11=>?_) fun c11=>?_
 replace c11:=dT c11;obtain⟨x,hx⟩:=A5 (l:=O6 s) (k:=j) (by omega);have hxl:=hp x (List.mem_of_getElem? hx);have htl:(Lib.trimLeftB x 46).length<=x.length:=(List.dropWhile_sublist _).length_le;have htk:a7o 0 ((O6 s).take (j+1))=a7o 0 ((O6 s).take j)++[a7u j x]:=by rw[a9T hx,Nat.zero_add]
 have hln:(r++[a7u j x]).length=r.length+1:=List.length_append;have hrd:Rd m (.pt b8 (.cells (fl encB (O6 s)).toArray 9 (0,0))::.row (.slice a3 r.length c3) 26 3 r.length (fl S9 r)::h) (some ⟨b8,0,none⟩) (O6 s).length (O6 s).length 1 (fl encB (O6 s)):=Rd.ofPt (by rw[b1u D7]) (by omega) Me;refine kQ0 [3,8,9,10] ?_;refine kQ5 [3,4,5,8,9,10] ?_;refine kA1 ?_;refine xf (E2 Et Ek) (c07 x _ _) ?_;refine kQ1 [3,4,5,6,8,9,10] ?_;refine kA4 ?_;refine xG (K7 uu9 Et) ?_;refine kA1 ?_;refine xG (K7 uu9 Et) ?_;refine xG (U0 Et Et (by omega)) ?_;refine kA2 ?_;refine xY a1w Eb fun b27=>?_
 refine xD a1w (Ev.tmp rfl) (Ev.tmp rfl) (show r.length+1=(r++[a7u j x]).length by simp) (G9 (enc:=S9) _ (a7u j x)) fun a28 c28=>?_
 refine kQ1 [3,8,9,10] ?_;refine kA2 ?_;refine WL.nil (A7 ((O6 s).length - (j+1)) [(3,.slice a28 (r++[a7u j x]).length c28),(10,.int .i64 (j+1))] (h'':=.pt b8 (.cells (fl encB (O6 s)).toArray 9 (0,0))::.row (.slice a28 (r++[a7u j x]).length c28) 26 3 (r++[a7u j x]).length (fl S9 (r++[a7u j x]))::h) (by omega) ?_ Su Sb ⟨a28,c28,j+1,r++[a7u j x],⟨⟨by omega,by omega⟩,by rw[htk,hJ]⟩,rfl,rfl,rfl⟩);exact Su;replace c11:=dF c11;rw[List.take_of_length_le (by omega)] at hJ;subst hJ;refine kQ0 [3] ?_;refine kQ2 [2] ?_;refine wT (.row (.slice a3 (a1f s).length c3) 26 3 (a1f s).length (fl S9 (a1f s))::h) ?_;exact⟨_,_,_,rfl,rfl,rfl⟩
theorem b7P (s1 s2:Option Addr) (n1 c1 n2 c2:Nat) (xs ys:List _) (h:List Res) (m:View) (h1:Rd m h s1 n1 c1 3 (fl S9 xs)) (h2:Rd m h s2 n2 c2 3 (fl S9 ys)) :
 CT Tryz.prog 30 [.slice s1 n1 c1,.slice s2 n2 c2] h m (A6 h (.bool (eqL eqR xs ys))):=by
 have l1:=h1.lenF F7 (by decide);have l2:=h2.lenF F7 (by decide);have m1:=h1.mx;have m2:=h2.mx;have k1:=h1.le;have k2:=h2.le;refine CT.body Tryz.call30 Tryz.func30 rfl Tryz.ntmps30 Lb rfl ?_;refine kQ1 [0,1] ?_;refine kQ5 [0,1,10] ?_;refine wc (fun c10=>?_) fun c10=>?_
 replace c10:=a2J c10;refine kQ1 [4] ?_;refine wT h ?_;exact⟨by rw[V1 _ _ _ (by omega)],rfl⟩;replace c10:=a2I c10;refine kQ0 [0,1] ?_;refine kQ3 [0,1,12,13] ?_;refine B6 [0,1,12] rfl (fun μ F' h'=>∃ k:Nat,(k<=n1/\eqL eqR xs ys=eqL eqR (xs.drop k) (ys.drop k))/\n1 - k=μ/\F'=[(13,.int .i64 k)]/\h=h') (n1 - 0) [(13,.int .i64 0)] (h0:=h) ?_ Sb ⟨0,⟨by omega,by simp⟩,rfl,rfl,rfl⟩ ?_;exact Su;rintro _ _ _ ⟨k,⟨hk,hJ⟩,rfl,rfl,rfl⟩;refine B9 rfl ?_;refine kQ1 [0,1,12,13,14] ?_;refine wc (fun c14=>?_) fun c14=>?_
 replace c14:=dT c14;obtain⟨x,hx⟩:=A5 (l:=xs) (k:=k) (by omega);obtain⟨y,hy⟩:=A5 (l:=ys) (k:=k) (by omega);rw[R6 _ hx hy] at hJ;refine kQ0 [0,1,12,13] ?_;refine kQ2 [0,1,5,12,13] ?_;refine dS [] (.op 0 (.op 1 (.op 2 (.op 3 (.op 4 (.op 5 (.op 6 (.op 7 .nil)))))))) [8] F1 ?_;refine kA8 ?_;refine SR.nil rfl rfl ?_;refine xG (b3y b3A (by kernel_rfl) (by kernel_rfl) Et Et rfl) ?_;refine kQ0 [0,1,12,13,24] ?_;refine wc (fun c24=>?_) fun c24=>?_
 refine kQ1 [4] ?_;refine wT h ?_;exact⟨by rw[hJ,b4v c24];rfl,rfl⟩;rw[b3z c24,Bool.true_and] at hJ;refine kQ0 [0,1,12,13] ?_;refine kA2 ?_;refine WL.nil (A7 (n1 - (k+1)) [(13,.int .i64 (k+1))] (h'':=h) (by omega) ?_ Su Sb ⟨k+1,⟨by omega,hJ⟩,rfl,rfl,rfl⟩);exact Su;replace c14:=dF c14;refine kQ0 [] ?_;refine kQ1 [4] ?_;refine wT h ?_;exact⟨by rw[hJ,List.drop_eq_nil_of_le (by omega),List.drop_eq_nil_of_le (by omega)];rfl,rfl⟩
end
section
open Go.Eng Go.Pc Go.Sx Go
open Go.Xp hiding B D1
open Go.Ty (Ty Vr Tok eqT tyV L5 C0 C3 Y1 zeroK O9 E6 encV F2 VOk PrOk)
open Go.Lx (encB D7 textO)
open Go.Ly (Rw S9 F7 eqR b3z b4v b4s)
structure TxtOk (s:B):Prop where
 n:s.length < 4294967281
 l:(O6 s).length<=1000
 p:∀ x ∈ O6 s,x.length<=100000
 t:∀ x ∈ a1f s,x.text.length<=140737488355328
def a6Y (s:B):Bool:=decide (s.length < 1000)&&decide ((O6 s).length<=1000)&&(O6 s).all (fun x=>decide (x.length<=1000))&&(a1f s).all (fun x=>decide (x.text.length<=1000))
theorem a1J {s:B} (h:a6Y s=true):TxtOk s:=by
 unfold a6Y at h;simp only[Bool.and_eq_true,decide_eq_true_eq,List.all_eq_true] at h;obtain⟨⟨⟨h1,h2⟩,h3⟩,h4⟩:=h;exact⟨by omega,h2,fun x hx=>by have:=h3 x hx;omega,fun x hx=>by have:=h4 x hx;omega⟩
theorem a4m {m:View} (hg:Glob m) (hp:Pow m) (s:B) (k:Int) (hT:TxtOk s) (hM:a4D s k=true) (h:List Res) :
 CT Tryz.prog 16 [str s,.int .u8 k] h m (A6 h (.bool true)):=by
 unfold a4D at hM;simp only[Bool.and_eq_true,beq_iff_eq] at hM;obtain⟨⟨⟨⟨hM1,hM2⟩,hM3⟩,hM4⟩,hM5⟩:=hM;refine CT.body Tryz.call16 Tryz.func16 rfl Tryz.ntmps16 Lb rfl ?_;refine kQ1 [0,1] ?_;refine kA1 ?_;refine xg (E1 Et) (b3M hg s hT.n hT.l hT.p _) ?_;rintro _ _ ⟨a12,c12,_,rfl,rfl,rfl⟩;refine xg (E1 Et) (b2q hg _ _ (a1f s) _ hT.t) ?_;rintro _ _ ⟨x,hh,rfl,hst,hok,rfl⟩;rw[hM2,hM3];have hxk:x.k=k:=by rw[<- (b0p x).1,hst];exact hM1
 have hpx:R0 x=R0 (S0 (a1f s)).1:=by rw[<- hst,c3U]
 refine kA4 ?_;refine xW fun b5=>?_
 refine kQ3 [0,1,5,6,7] ?_;refine kA1 ?_;refine xg (E1 Et) (b4H hg hp x _ (hok.mono Sb)) ?_;rintro _ _ ⟨a19,c19,bl2,rfl,hrd,rfl,-⟩;rw[hpx,hM4];rw[hpx] at hrd;refine WL.perm List.perm_middle ?_;refine kQ5 [0,1,5,6,7,8,9] ?_;refine kA4 ?_;refine wV (b':=true) (by simpa using hxk) ?_;refine kA1 ?_;refine zU ?_;refine kA1 ?_;refine zU ?_;refine kA3 ?_;refine zU ?_;refine kA1 ?_;refine zU ?_;refine kA3 ?_;refine zU ?_;refine kA1 ?_;refine zU ?_;refine kA3 ?_;refine zU ?_;refine kA1 ?_;refine zU ?_;refine kA1 ?_;refine zU ?_;refine xg (E1 Et) (b3M hg s hT.n hT.l hT.p _) ?_;rintro _ _ ⟨a41,c41,_,rfl,rfl,rfl⟩;refine kR a41 fun p41 q41 r41=>?_
 refine zU ?_;refine xf (E2 Et Et) ((b7P _ _ _ _ _ _ (R0 (S0 (a1f s)).1).1 (a1f s) _ _ (hrd.mono Vl (((List.sublist_append_left _ _).cons _).cons _)) (iR r41 p41 q41)).val (congrArg Value.bool hM5)) ?_;refine kQ2 [4] ?_;refine wT h ?_;exact⟨rfl,rfl⟩
end
section
open Go.Eng Go.Pc Go
open Go.Xp hiding B D1
open Go.Ty (Ty Vr eqT tyV L5 PrOk VOk encV F2 O9 E6 eqI a4b a3X)
open Go.Lx (encB D7)
theorem c8q {P:Program} {n:Cx} {F:Fm} {h:List Res} {m:View} {ty:TypeId} {pos:String} {after:Array Edge} {dst:Option Tmp} {g:Option (Nat × Bool)} {x y:Operand} {i j:Int} {t t':TypeId} (ex:Ev n F x (.int .i64 i)) (ey:Ev n F y (.int .i64 j)) (_:(0:Int)<=1) :
 PO P ⟨dst,.binOp .add t x y t',ty,pos,after,g⟩ n F h m (.int .i64 (IntKind.i64.wrap (i+j))):=R7 ex ey (by simp[iop])
abbrev W64 (v:Int):Int:=IntKind.i64.wrap v
theorem d0s (a b:Int):W64 (W64 a+W64 b)=W64 (a+b):=by
 unfold W64;rw[IntKind.wrap_i64,IntKind.wrap_i64,IntKind.wrap_i64,IntKind.wrap_i64];omega
theorem a4L {x:Pr}:∀ {l:List Pr} {j:Nat},l[j]?=some x->M3 (l.take (j+1))=M3 (l.take j)+T0 x
 | [],_,h=>by cases h
 | y::l,0,h=>by
  cases h;show T0 _+M3 (l.take 0)=M3 []+_;rw[List.take_zero];unfold M3;omega
 | y::l,j+1,h=>by
  have ih:=a4L (l:=l) (j:=j) (by simpa using h);show T0 y+M3 (l.take (j+1))=(T0 y+M3 (l.take j))+_;omega
theorem b0K {g:Gu}:∀ {l:List Gu} {j:Nat},l[j]?=some g->Z8 (l.take (j+1))=Z8 (l.take j)+M3 g.bl
 | [],_,h=>by cases h
 | y::l,0,h=>by
  cases h;show b4z _+Z8 (l.take 0)=Z8 []+_;rw[List.take_zero,b3W];unfold Z8;omega
 | y::l,j+1,h=>by
  have ih:=b0K (l:=l) (j:=j) (by simpa using h);show b4z y+Z8 (l.take (j+1))=(b4z y+Z8 (l.take j))+_;omega
theorem b7T {v:Int} {a b:Nat} {c:Int} {x:Pr} (hv:v=W64 (c+(a:Int))) (hb:b=a+T0 x):W64 (v+W64 (T0 x))=W64 (c+(b:Int)):=by
 subst hv hb;rw[d0s];congr 1
 omega
set_option maxHeartbeats 4000000 in
theorem c6I (p:Pr):∀ (h:List Res) (m:View),POk m h p->CT Tryz.prog 14 [prV p] h m (A6 h (.int .i64 (W64 (T0 p)))):=by
 refine Pr.ind (q:=fun p=>∀ (h:List Res) (m:View),POk m h p->CT Tryz.prog 14 [prV p] h m (A6 h (.int .i64 (W64 (T0 p))))) (fun p ih h m hP=>?_) p;have hO:=hP.own;have hrl:=hO.l;have hrg:=hO.g;have hrb:=hO.sp.b;have hlx:=Nat.le_trans hrl.le hrl.mx;have hgx:=Nat.le_trans hrg.le hrg.mx;have hbx:=Nat.le_trans hrb.le hrb.mx;have hce:=a7i p;rw[a7N] at hce;refine CT.body Tryz.call14 Tryz.func14 rfl Tryz.ntmps14 Lb rfl ?_;refine j0 ?_;refine xX fun b1=>?_
 refine kQ1 [1] ?_;refine kQ1 [1,3] ?_;refine kQ4 [1,3,13,14,15] ?_;refine B6 [1,13,14] rfl (fun μ F' h'=>∃ v:Int,∃ j:Nat,(j<=p.ll.length/\v=W64 (1+(M3 (p.ll.take j):Nat)))/\p.ll.length - j=μ/\F'=[(3,.int .i64 v),(15,.int .i64 j)]/\.pt b1 (.cells (prE p).toArray 52 (0,0))::h=h') (p.ll.length - 0) [(3,.int .i64 1),(15,.int .i64 0)] (h0:=.pt b1 (.cells (prE p).toArray 52 (0,0))::h) ?_ Sb ⟨1,0,⟨Nat.zero_le _,rfl⟩,rfl,rfl,rfl⟩ ?_;exact Su;rintro _ _ _ ⟨v,j,⟨hj,hv⟩,rfl,rfl,rfl⟩;refine B9 rfl ?_;refine kQ1 [1,3,13,14,15,16] ?_;refine wc (fun c16=>?_) fun c16=>?_
 replace c16:=dT c16;obtain⟨x,hx⟩:=A5 (l:=p.ll) (k:=j) (by omega);have hin:In x p:=.l (List.mem_of_getElem? hx);refine kQ0 [1,3,13,14,15] ?_;refine kA2 ?_;refine xW fun b5=>?_
 refine kQ1 [1,3,5,13,14,15] ?_;refine kA2 ?_;refine xf (E1 Et) (ih x hin _ m ((hP.sub hin).mono Sb)) ?_;refine xG (c8q Et Et (by omega)) ?_;refine kQ1 [1,3,13,14,15] ?_;refine kA2 ?_;refine WL.nil (A7 (p.ll.length - (j+1)) [(3,.int .i64 (W64 (v+W64 (T0 x)))),(15,.int .i64 (j+1))] (h'':=.pt b1 (.cells (prE p).toArray 52 (0,0))::h) (by omega) ?_ Su Sb ⟨W64 (v+W64 (T0 x)),j+1,⟨by omega,b7T hv (a4L (l:=p.ll) hx)⟩,rfl,rfl,rfl⟩);exact Su;replace c16:=dF c16;rw[List.take_of_length_le (by omega)] at hv;refine kQ0 [1,3] ?_;refine kQ5 [1,3,26,27,28] ?_
 refine B6 [1,26,27] rfl (fun μ F' h'=>∃ v:Int,∃ j:Nat,(j<=p.sp.bl.length/\v=W64 ((1+(M3 p.ll:Int))+(M3 (p.sp.bl.take j):Nat)))/\p.sp.bl.length - j=μ/\F'=[(3,.int .i64 v),(28,.int .i64 j)]/\.pt b1 (.cells (prE p).toArray 52 (0,0))::h=h') (p.sp.bl.length - 0) [(3,.int .i64 v),(28,.int .i64 0)] (h0:=.pt b1 (.cells (prE p).toArray 52 (0,0))::h) ?_ Sb ⟨v,0,⟨Nat.zero_le _,by rw[hv,List.take_zero];congr 1⟩,rfl,rfl,rfl⟩ ?_;exact Su;rintro _ _ _ ⟨v,j,⟨hj,hv⟩,rfl,rfl,rfl⟩;refine B9 rfl ?_;refine kQ1 [1,3,26,27,28,29] ?_;refine wc (fun c29=>?_) fun c29=>?_
 replace c29:=dT c29;obtain⟨x,hx⟩:=A5 (l:=p.sp.bl) (k:=j) (by omega);have hin:In x p:=.s (List.mem_of_getElem? hx);refine kQ0 [1,3,26,27,28] ?_;refine kA2 ?_;refine xW fun b7=>?_
 refine kQ1 [1,3,7,26,27,28] ?_;refine kA2 ?_;refine xf (E1 Et) (ih x hin _ m ((hP.sub hin).mono Sb)) ?_;refine xG (c8q Et Et (by omega)) ?_;refine kQ1 [1,3,26,27,28] ?_;refine kA2 ?_;refine WL.nil (A7 (p.sp.bl.length - (j+1)) [(3,.int .i64 (W64 (v+W64 (T0 x)))),(28,.int .i64 (j+1))] (h'':=.pt b1 (.cells (prE p).toArray 52 (0,0))::h) (by omega) ?_ Su Sb ⟨W64 (v+W64 (T0 x)),j+1,⟨by omega,b7T hv (a4L (l:=p.sp.bl) hx)⟩,rfl,rfl,rfl⟩);exact Su;replace c29:=dF c29;rw[List.take_of_length_le (by omega)] at hv;refine kQ0 [1,3] ?_;refine kQ4 [3,38,39,40] ?_
 refine B6 [38,39] rfl (fun μ F' h'=>∃ v:Int,∃ j:Nat,(j<=p.gl.length/\v=W64 (((1+(M3 p.ll:Int))+(M3 p.sp.bl:Nat))+(Z8 (p.gl.take j):Nat)))/\p.gl.length - j=μ/\F'=[(3,.int .i64 v),(40,.int .i64 j)]/\.pt b1 (.cells (prE p).toArray 52 (0,0))::h=h') (p.gl.length - 0) [(3,.int .i64 v),(40,.int .i64 0)] (h0:=.pt b1 (.cells (prE p).toArray 52 (0,0))::h) ?_ Sb ⟨v,0,⟨Nat.zero_le _,by rw[hv,List.take_zero];congr 1⟩,rfl,rfl,rfl⟩ ?_;exact Su;rintro _ _ _ ⟨v,j,⟨hj,hv⟩,rfl,rfl,rfl⟩;refine B9 rfl ?_;refine kQ1 [3,38,39,40,41] ?_;refine wc (fun c41=>?_) fun c41=>?_
 replace c41:=dT c41;obtain⟨g,hg1⟩:=A5 (l:=p.gl) (k:=j) (by omega);have hgm:=List.mem_of_getElem? hg1;have hgb:=(hO.gs g hgm).b;have hgbx:=Nat.le_trans hgb.le hgb.mx;refine kQ0 [3,38,39,40] ?_;refine kA2 ?_;refine xW fun b9=>?_
 refine kQ1 [3,9,38,39,40] ?_;refine kQ4 [3,38,39,40,45,46,47] ?_;refine B6 [38,39,40,45,46] rfl (fun μ F' h'=>∃ w:Int,∃ i:Nat,(i<=g.bl.length/\w=W64 ((((1+(M3 p.ll:Int))+(M3 p.sp.bl:Nat))+(Z8 (p.gl.take j):Nat))+(M3 (g.bl.take i):Nat)))/\g.bl.length - i=μ/\F'=[(3,.int .i64 w),(47,.int .i64 i)]/\.pt b1 (.cells (prE p).toArray 52 (0,0))::h=h') (g.bl.length - 0) [(3,.int .i64 v),(47,.int .i64 0)] (h0:=.pt b1 (.cells (prE p).toArray 52 (0,0))::h) ?_ Sb ⟨v,0,⟨Nat.zero_le _,by rw[hv,List.take_zero];congr 1⟩,rfl,rfl,rfl⟩ ?_;exact Su;rintro _ _ _ ⟨w,i,⟨hi,hw⟩,rfl,rfl,rfl⟩;refine B9 rfl ?_;refine kQ1 [3,38,39,40,45,46,47,48] ?_;refine wc (fun c48=>?_) fun c48=>?_
 replace c48:=dT c48;obtain⟨x,hx⟩:=A5 (l:=g.bl) (k:=i) (by omega);have hin:In x p:=.g hgm (List.mem_of_getElem? hx);refine kQ0 [3,38,39,40,45,46,47] ?_;refine kA2 ?_;refine xW fun b11=>?_
 refine kQ1 [3,11,38,39,40,45,46,47] ?_;refine kA2 ?_;refine xf (E1 Et) (ih x hin _ m ((hP.sub hin).mono Sb)) ?_;refine xG (c8q Et Et (by omega)) ?_;refine kQ1 [3,38,39,40,45,46,47] ?_;refine kA2 ?_;refine WL.nil (A7 (g.bl.length - (i+1)) [(3,.int .i64 (W64 (w+W64 (T0 x)))),(47,.int .i64 (i+1))] (h'':=.pt b1 (.cells (prE p).toArray 52 (0,0))::h) (by omega) ?_ Su Sb ⟨W64 (w+W64 (T0 x)),i+1,⟨by omega,b7T hw (a4L (l:=g.bl) hx)⟩,rfl,rfl,rfl⟩);exact Su;replace c48:=dF c48;rw[List.take_of_length_le (l:=g.bl) (by omega)] at hw;refine kQ0 [3,38,39,40] ?_;refine kA2 ?_;refine WL.nil (A7 (p.gl.length - (j+1)) [(3,.int .i64 w),(40,.int .i64 (j+1))] (h'':=.pt b1 (.cells (prE p).toArray 52 (0,0))::h) (by omega) ?_ Su Sb ⟨w,j+1,⟨by omega,by rw[hw,b0K hg1];congr 1;omega⟩,rfl,rfl,rfl⟩);exact Su;replace c41:=dF c41;rw[List.take_of_length_le (by omega)] at hv;refine kQ0 [3] ?_;refine kQ2 [2] ?_
 refine wT h ?_;exact⟨by rw[hv,hce];congr 2;omega,rfl⟩
end
section
open Go.Eng Go.Pc Go
open Go.Xp hiding B D1
open Go.Ty (Ty Vr eqT tyV L5 PrOk VOk encV F2 O9 E6 eqI a4b a3X)
open Go.Lx (encB D7)
theorem b8C (m:View) (h:List Res):EOk m h A0:=⟨.mk (Rd.nilF exE 6 m h) (fun _ hx=>(List.not_mem_nil hx).elim),.mk (by decide) (by decide) (by decide) (by decide) (by decide) fun _ hx=>(List.not_mem_nil hx).elim⟩
theorem c7M (m:View) (h:List Res):LOk m h B8:=⟨Rd.nilF exE 6 m h,fun _ hx=>(List.not_mem_nil hx).elim⟩
theorem d0N (m:View) (h:List Res):PrOk m h none 0 0 []:=⟨Rd.nilF encV 2 m h,fun _ hx=>(List.not_mem_nil hx).elim,fun _ hx=>(List.not_mem_nil hx).elim⟩
theorem d1v:TyW Go.Ty.zeroT:=⟨by decide,by decide,by decide,by decide⟩
structure SpF (m:View) (h:List Res) (ty:Ty) (e:Ex) (vs:Sli Vr) (fs:Sli Fo):Prop where
 t:TyW ty
 e:EOk m h e
 v:PrOk m h vs.a vs.l.length vs.c vs.l
 vw:∀ x ∈ vs.l,x.items.length=x.n
 f:Rd m h fs.a fs.l.length fs.c 6 (fl foE fs.l)
 fw:∀ x ∈ fs.l,FoW x
theorem d0p {m:View} {h:List Res} {k:Int} {ty:Ty} {nm:Sli B} {e:Ex} {cs:Bool} {vs:Sli Vr} {fs:Sli Fo} {ba:Option Addr} {bc:Nat} {bl:List Pr} (hk:0<=k/\k<=255) (q:SpF m h ty e vs fs) (hn:Rd m h nm.a nm.l.length nm.c 1 (fl encB nm.l)) (hw:∀ x ∈ nm.l,x.length<=Big)
 (hb:Rd m h ba bl.length bc 42 (fl prE bl)) (hp:∀ x ∈ bl,POk m h x):SK m h (.mk k ty nm e cs vs fs ba bc bl):=⟨⟨hk,q.t,hn,hw,q.e,q.v,q.vw,q.f,q.fw,hb⟩,hp⟩
theorem b8h {α:Type} {p:α->Prop}:∀ x ∈ (B8:Sli α).l,p x:=fun _ hx=>(List.not_mem_nil hx).elim
theorem d2c (m:View) (h:List Res):SK m h B7:=d0p (by decide) ⟨d1v,b8C m h,d0N m h,b8h,Rd.nilF foE 6 m h,b8h⟩ (Rd.nilF encB 1 m h) b8h (Rd.nilF prE 42 m h) (fun _ hx=>(List.not_mem_nil hx).elim)
end
section
open Go.Eng Go.Pc Go
open Go.Xp hiding B D1
open Go.Ty (Ty Vr eqT tyV L5 PrOk VOk encV F2 O9 E6 eqI a4b a3X)
open Go.Lx (encB D7)
theorem c6i {m:View} {h:List Res} {nm:B} {ch:Ex} {tg ex:Sli Ex} {pn:Sli Int} {sp:Sp} (hn:nm.length<=Big) (hc:EOk m h ch) (ht:LOk m h tg) (he:LOk m h ex) (hpn:Rd m h pn.a pn.l.length pn.c 1 (fl a4N pn.l)) (hpw:∀ x ∈ pn.l,-9223372036854775808<=x/\x<=9223372036854775807) (hs:SK m h sp) :
 POk m h (a0X nm ch tg ex pn sp):=
 .mk ⟨by show 0<=(0:Int)/\(0:Int)<=255;decide,hn,hc,ht,he,Nat.zero_le _,b8C m h,b8C m h,Rd.nilF guE 23 m h,fun _ hx=>(List.not_mem_nil hx).elim,Rd.nilF prE 42 m h,hpn,hpw,hs.o⟩ fun x hx=>by cases hx with
  | l q=>exact(List.not_mem_nil q).elim
  | s q=>exact hs.b x q
  | g q _=>exact(List.not_mem_nil q).elim
theorem d0d (m:View) (h:List Res):POk m h S3:=c6i (by decide) (b8C m h) (c7M m h) (c7M m h) (Rd.nilF a4N 1 m h) b8h (d2c m h)
end
section
open Go.Eng Go.Pc Go.Sx Go
open Go.Xp hiding B D1
open Go.Ty (Ty Vr Tok eqT tyV L5 C0 C3 Y1 zeroK O9 E6 encV F2 VOk PrOk)
open Go.Lx (encB D7 textO)
open Go.Ly (Rw S9 F7 eqR b3z b4v b4s)
theorem pt0:a6Y [120,44,32,121,32,58,61,32,49,44,32,118,91,105,93]=true:=by decide +kernel
theorem pm0:a4D [120,44,32,121,32,58,61,32,49,44,32,118,91,105,93] 3=true:=by decide +kernel
theorem pt1:a6Y [73,78,84,32,120,58,47,83,69,81,32,105,32,61,32,48,32,70,79,82,32,52,47,46,99,32,33,32,120]=true:=by decide +kernel
theorem pm1:a4D [73,78,84,32,120,58,47,83,69,81,32,105,32,61,32,48,32,70,79,82,32,52,47,46,99,32,33,32,120] 18=true:=by decide +kernel
theorem pt2:a6Y [65,76,84,47,46,110,32,62,32,48,32,38,32,99,32,63,32,120,47,46,46,83,75,73,80,47,46,116,32,63,32,65,70,84,69,82,32,110,47,46,46,83,84,79,80]=true:=by decide +kernel
theorem pm2:a4D [65,76,84,47,46,110,32,62,32,48,32,38,32,99,32,63,32,120,47,46,46,83,75,73,80,47,46,116,32,63,32,65,70,84,69,82,32,110,47,46,46,83,84,79,80] 12=true:=by decide +kernel
theorem pt3:a6Y [80,82,79,84,79,67,79,76,32,112,47,46,67,65,83,69,47,46,46,112,117,116,59,32,73,78,84,47,46,46,101,110,100,47,58,47,83,75,73,80]=true:=by decide +kernel
theorem pm3:a4D [80,82,79,84,79,67,79,76,32,112,47,46,67,65,83,69,47,46,46,112,117,116,59,32,73,78,84,47,46,46,101,110,100,47,58,47,83,75,73,80] 18=true:=by decide +kernel
theorem pt4:a6Y [87,72,73,76,69,32,84,82,85,69,47,46,83,75,73,80]=true:=by decide +kernel
theorem pm4:a4D [87,72,73,76,69,32,84,82,85,69,47,46,83,75,73,80] 16=true:=by decide +kernel
theorem ft0:a6Y [83,69,81,47,46,120,32,58,61,32,49,47,46,46,83,75,73,80]=true:=by decide +kernel
theorem fm0:a3Y [83,69,81,47,46,120,32,58,61,32,49,47,46,46,83,75,73,80] 2 110=true:=by decide +kernel
theorem ft1:a6Y [83,69,81,32,105,32,61,32,48,32,70,79,82,32,51,47,46,83,75,73,80,47,46,83,75,73,80]=true:=by decide +kernel
theorem fm1:a3Y [83,69,81,32,105,32,61,32,48,32,70,79,82,32,51,47,46,83,75,73,80,47,46,83,75,73,80] 2 110=true:=by decide +kernel
theorem ft2:a6Y [83,75,73,80,47,83,75,73,80]=true:=by decide +kernel
theorem fm2:a3Y [83,75,73,80,47,83,75,73,80] 1 110=true:=by decide +kernel
theorem ft3:a6Y [40,120,41,32,58,61,32,49]=true:=by decide +kernel
theorem fm3:a3Y [40,120,41,32,58,61,32,49] 0 110=true:=by decide +kernel
theorem ft4:a6Y [120,32,58,61,32,49,32,43,32,50,32,43,32,51]=true:=by decide +kernel
theorem fm4:a3Y [120,32,58,61,32,49,32,43,32,50,32,43,32,51] 0 110=true:=by decide +kernel
theorem ft5:a6Y [83,69,81,47,46,120,32,58,61,32,36]=true:=by decide +kernel
theorem fm5:a3Y [83,69,81,47,46,120,32,58,61,32,36] 1 80=true:=by decide +kernel
theorem ft6:a6Y [73,78,84,32,120,58]=true:=by decide +kernel
theorem fm6:a3Y [73,78,84,32,120,58] 1 110=true:=by decide +kernel
theorem ft7:a6Y [80,82,73,32,80,65,82,47,46,83,75,73,80]=true:=by decide +kernel
theorem fm7:a3Y [80,82,73,32,80,65,82,47,46,83,75,73,80] 2 110=true:=by decide +kernel
theorem a2k {m:View} (hg:Glob m) (s:B) (n e:Int) (hT:TxtOk s) (hM:a3Y s n e=true) (h:List Res) :
 CT Tryz.prog 17 [str s,.int .i64 n,.int .i64 e] h m (A6 h (.bool true)):=by
 unfold a3Y at hM;simp only[Bool.and_eq_true,beq_iff_eq] at hM;obtain⟨⟨hM1,hM2⟩,hM3⟩:=hM;refine CT.body Tryz.call17 Tryz.func17 rfl Tryz.ntmps17 Lb rfl ?_;refine kQ1 [0,1,2] ?_;refine kA1 ?_;refine xg (E1 Et) (b3M hg s hT.n hT.l hT.p _) ?_;rintro _ _ ⟨a12,c12,_,rfl,rfl,rfl⟩;refine xg (E1 Et) (b2q hg _ _ (a1f s) _ hT.t) ?_;rintro _ _ ⟨x,hh,rfl,hst,hok,rfl⟩;rw[hM2,hM3];have hsx:D6 x S3=true:=by rw[<- b93,hst];exact hM1
 refine kA4 ?_;refine xW fun b7=>?_
 refine kQ3 [1,2,7,8,9] ?_;refine kA2 ?_;refine xf (E2 Et Et) ((b5p x S3 _ _ (hok.mono Sb) (d0d m _)).val (congrArg Value.bool hsx)) ?_;refine kA1 ?_;refine zU ?_;refine kA1 ?_;refine zU ?_;refine kA1 ?_;refine zU ?_;refine kA1 ?_;refine wV (b':=true) (by simp) ?_;refine kA2 ?_;refine zU ?_;refine kA1 ?_;refine zU ?_;refine kA1 ?_;refine zU ?_;refine kA1 ?_;refine wV (b':=true) (by simp) ?_;refine kQ2 [6] ?_;refine wT h ?_;exact⟨rfl,rfl⟩
def skP:Pr:=.mk 1 [] A0 B8 B8 a3V none 0 [] none 0 [] B8 B7
def unP (k:Int) (b:Nat):Pr:=.mk k [] A0 B8 B8 a3V none 0 [] (some ⟨b,0,none⟩) 1 [skP] B8 B7
theorem c7S (m:View) (h:List Res):POk m h skP:=c0f m h (k:=1) (by decide)
theorem c8k {m:View} {h:List Res} {k:Int} {b:Nat} (hk:0<=k/\k<=255) (hb:Res.pt b (.cells (prE skP).toArray 52 (0,0)) ∈ h):POk m h (unP k b):=
 a6N hk (Nat.zero_le _) (G7 _ _) (H3 _ _) (H3 _ _) (a0h _ _) (a1M _ _) ⟨Rd.ofPt rfl (show 1<=9223372036854775807 by decide) hb,fun x hx=>by rw[List.mem_singleton] at hx;subst hx;exact c7S m h⟩ (a0T _ _) (X6 _ _)
theorem c8O (b:Nat):mayP (unP 10 b)=false:=by kernel_rfl
theorem c8R:mayP skP=true:=by kernel_rfl
theorem c9P (b:Nat):W64 (T0 (unP 16 b))=2:=by kernel_rfl
theorem d23:(S0 []).2=(0,110):=by kernel_rfl
set_option maxHeartbeats 2000000 in
theorem b5F {m:View} (hg:Glob m) (hp:Pow m) (h:List Res):CT Tryz.prog 9 [] h m (A6 h (.bool true)):=by
 refine CT.body Tryz.call9 Tryz.func9 rfl Tryz.ntmps9 Lb rfl ?_;refine kQ1 [] ?_;refine xf (E2 Ek Ek) (a4m hg hp _ _ (a1J pt0) pm0 _) ?_;refine kA1 ?_;refine zU ?_;refine xf (E2 Ek Ek) (a4m hg hp _ _ (a1J pt1) pm1 _) ?_;refine kA2 ?_;refine zU ?_;refine xf (E2 Ek Ek) (a4m hg hp _ _ (a1J pt2) pm2 _) ?_;refine kA2 ?_;refine zU ?_;refine xf (E2 Ek Ek) (a4m hg hp _ _ (a1J pt3) pm3 _) ?_;refine kA2 ?_;refine zU ?_;refine xf (E2 Ek Ek) (a4m hg hp _ _ (a1J pt4) pm4 _) ?_;refine kQ2 [1] ?_;refine xf (E3 Ek Ek Ek) (a2k hg _ _ _ (a1J ft0) fm0 _) ?_;refine kA1 ?_;refine zU ?_;refine xf (E3 Ek Ek Ek) (a2k hg _ _ _ (a1J ft1) fm1 _) ?_;refine kA2 ?_;refine zU ?_;refine xf (E3 Ek Ek Ek) (a2k hg _ _ _ (a1J ft2) fm2 _) ?_;refine kA2 ?_;refine zU ?_;refine xf (E3 Ek Ek Ek) (a2k hg _ _ _ (a1J ft3) fm3 _) ?_;refine kA2 ?_;refine zU ?_;refine xf (E3 Ek Ek Ek) (a2k hg _ _ _ (a1J ft4) fm4 _) ?_;refine kA2 ?_
 refine zU ?_;refine xf (E3 Ek Ek Ek) (a2k hg _ _ _ (a1J ft5) fm5 _) ?_;refine kA2 ?_;refine zU ?_;refine xf (E3 Ek Ek Ek) (a2k hg _ _ _ (a1J ft6) fm6 _) ?_;refine kA2 ?_;refine zU ?_;refine xf (E3 Ek Ek Ek) (a2k hg _ _ _ (a1J ft7) fm7 _) ?_;refine kQ2 [1,2] ?_;refine xg (E1 Ek) (b5s hg none 0 [] _ (Rd.nilF S9 3 m []) nofun) ?_;rintro _ _ ⟨x,hh,rfl,hst,hok,rfl⟩;rw[d23];refine kA4 ?_;refine xW fun b3=>?_
 refine kQ3 [1,2,4,5] ?_;refine kA1 ?_;refine xW fun b6=>?_
 refine kQ1 [1,2,4,5,6] ?_;refine kA2 ?_;refine zU ?_;refine kA3 ?_;refine zU ?_;refine kA1 ?_;refine zU ?_;refine kA3 ?_;refine zU ?_;refine kA1 ?_;refine zU ?_;refine kA3 ?_;refine zU ?_;refine kA1 ?_;refine zU ?_;refine xY a1B Eb fun b62=>?_
 refine zU ?_;refine kA1 ?_;refine zU ?_;refine xf (E1 Et) ((a7w hg (unP 10 b62) (c8k (by decide) Me)).val (congrArg Value.bool (c8O _))) ?_;refine zU ?_;refine kA3 ?_;refine zU ?_;refine kA1 ?_;refine zU ?_;refine xf (E1 Et) ((a7w hg skP (c7S m _)).val (congrArg Value.bool c8R)) ?_;refine kA2 ?_;refine zU ?_;refine kA1 ?_;refine zU ?_;refine xY a1B Eb fun b73=>?_
 refine zU ?_;refine kA1 ?_;refine zU ?_;refine xf (E1 Et) ((c6I (unP 16 b73) _ m (c8k (by decide) Me)).val (congrArg (Value.int .i64) (c9P _))) ?_;refine zU ?_;refine kQ3 [0] ?_;refine wT h ?_;exact⟨rfl,rfl⟩
end
section
open Go.Eng Go.Pc Go
open Go.Xp hiding B D1
open Go.Ty (Ty Vr eqT tyV L5 PrOk VOk encV F2 O9 E6 eqI a4b a3X)
open Go.Lx (encB D7)
theorem a0A {α:Type} {q:α->α->Bool}:∀ l r:List α,(∀ x ∈ l,∀ y,q x y=q y x)->eqL q l r=eqL q r l
 | [],[],_=>rfl
 | [],_::_,_=>rfl
 | _::_,[],_=>rfl
 | a::r,b::s,h=>by show(q a b&&eqL q r s)=(q b a&&eqL q s r);rw[h a (List.mem_cons_self ..) b,a0A r s (fun x hx=>h x (List.mem_cons_of_mem _ hx))]
theorem a01 (a b:Ex):C7 a b=C7 b a:=by rw[Bool.eq_iff_iff,X3,X3];exact eq_comm
theorem R5 {α:Type} [BEq α] [LawfulBEq α] (a b:α):(a==b)=(b==a):=by rw[Bool.eq_iff_iff,beq_iff_eq,beq_iff_eq];exact eq_comm
theorem b4G (a b:Ty):eqT a b=eqT b a:=by rw[Bool.eq_iff_iff,Go.Ty.eqT_iff,Go.Ty.eqT_iff];exact eq_comm
theorem c0x (a b:Fo):a0n a b=a0n b a:=by unfold a0n;rw[R5 a.val,b4G a.ty,R5 a.name]
theorem b4B (a b:Vr):L1 a b=L1 b a:=by unfold L1;rw[R5 a.tag,R5 a.items]
theorem a3D (l r:List Ex):eqL C7 l r=eqL C7 r l:=a0A l r fun x _ y=>a01 x y
theorem b0J (p:Pr):∀ q,D6 p q=D6 q p:=by
 refine Pr.ind (q:=fun p=>∀ q,D6 p q=D6 q p) (fun p ih q=>?_) p;have hs:R1 p.sp q.sp=R1 q.sp p.sp:=by
  rw[a4u,a4u,R5 p.sp.k,b4G p.sp.ty,a0A p.sp.fs.l _ fun x _ y=>c0x x y,a0A p.sp.names.l _ fun x _ y=>R5 x y,a01 p.sp.e,a0A p.sp.bl _ fun x hx y=>ih x (.s hx) y];unfold a0P;rw[R5 p.sp.cs,a0A p.sp.vs.l _ fun x _ y=>b4B x y]
 have hg:eqL N9 p.gl q.gl=eqL N9 q.gl p.gl:=a0A p.gl _ fun x hx y=>by
  rw[a5E,a5E,R5 x.k,R5 x.name,a01 x.cond,a01 x.ch,a01 x.time,a3D x.tg.l,a3D x.vl.l,a0A x.bl _ fun z hz w=>ih z (.g hx hz) w]
 rw[a5T p q,a5T q p,hs,hg,a0A p.pn.l _ fun x _ y=>R5 x y,R5 p.k,R5 p.name,a01 p.ch,a3D p.tg.l,a3D p.ex.l,a0A p.ll _ fun x hx y=>ih x (.l hx) y];unfold a0y;rw[R5 p.rep.name,a01 p.rep.base,a01 p.rep.count]
end
end Go.Proofs.YtkemgjnejlkkcaaGreatDoor
namespace Go.Proofs.YtkemgjnejlkkcaaGreatDoor.Ly7
section
open Go.Eng Go.Ly Go
theorem a81 (c d:UInt8):((c.toNat:Int)==(d.toNat:Int))=(c==d):=by
 rw[Bool.eq_iff_iff];simp only[beq_iff_eq];constructor
 ·intro h
  apply UInt8.toNat_inj.1;exact_mod_cast h
 ·rintro rfl
  rfl
theorem b4j (c:UInt8):((c.toNat:Int)==45)=(c==45):=a81 c 45
theorem b3R (c:UInt8):((c.toNat:Int)==32)=(c==32):=a81 c 32
theorem c5Q (c:UInt8):(decide ((c.toNat:Int) < 32)||decide ((c.toNat:Int) > 126))=!okB c:=by
 unfold okB;by_cases h1:(c.toNat:Int) < 32
 ·simp[h1]
 ·by_cases h2:(c.toNat:Int) > 126
  ·simp[h2]
  ·simp[h1,h2]
   omega
theorem c2r {s:B} {k:Nat} {c:UInt8} (hc:s[k]?=some c) (hk:s.all okB=(s.drop k).all okB):s.all okB=(okB c&&(s.drop (k+1)).all okB):=by
 rw[hk,X2 hc];rfl
theorem b1g (s:B) (h:List Res) (m:View) (hs:s.length<=140737488355328):CT Tryz.prog 28 [str s] h m (A6 h (.bool (s.all okB))):=by
 have hd:∀ k,k < s.length->s[k]?=some (s.getD k 0):=fun k hi=>by rw[List.getD_eq_getElem?_getD,List.getElem?_eq_getElem hi];rfl
 refine CT.body Tryz.call28 Tryz.func28 rfl Tryz.ntmps28 Lb rfl ?_;refine kQ1 [0] ?_;refine kQ1 [0,3] ?_;refine B6 [0] rfl (fun μ F' h'=>∃ k:Nat,(k<=s.length/\s.all okB=(s.drop k).all okB)/\s.length - k=μ/\F'=[(3,.int .i64 k)]/\h=h') (s.length - 0) [(3,.int .i64 0)] (h0:=h) ?_ Sb ⟨0,⟨by omega,rfl⟩,rfl,rfl,rfl⟩ ?_;exact Su;rintro _ _ _ ⟨k,⟨hk,hJ⟩,rfl,rfl,rfl⟩;refine B9 rfl ?_;refine kA2 ?_;refine xG (K7 uu9 Et) ?_;refine kQ1 [0,3,7] ?_;refine wc (fun c7=>?_) fun c7=>?_
 replace c7:=dT c7;obtain⟨c,hc⟩:=A5 (l:=s) (k:=k) (by omega);have hJ:=c2r hc hJ;have hn:=c5Q c;refine kQ0 [0,3] ?_;refine kA2 ?_;refine xG (J4 uu9 Et Et rfl (by assumption)) ?_;refine kA4 ?_;refine zG (fun hc=>J4 uu9 (Eg hc) (Eg hc) rfl (by assumption)) ?_;refine kQ2 [0,3,19] ?_;refine wc (fun c19=>?_) fun c19=>?_
 replace hn:=hn.symm.trans c19;refine kQ1 [2] ?_;refine wT h ?_;exact⟨by rw[hJ,show okB c=false by simpa using hn];rfl,rfl⟩;replace hn:=hn.symm.trans c19;refine kQ0 [0,3] ?_;refine kA3 ?_;refine WL.nil (A7 (s.length - (k+1)) [(3,.int .i64 (k+1))] (h'':=h) (by omega) ?_ Su Sb ⟨k+1,⟨by omega,by rw[hJ,show okB c=true by simpa using hn];rfl⟩,rfl,rfl,rfl⟩);exact Su;replace c7:=dF c7;refine kQ0 [] ?_;refine kQ1 [2] ?_;refine wT h ?_;exact⟨by rw[hJ,List.drop_eq_nil_of_le (by omega)];rfl,rfl⟩
theorem c0i {s:B} (h0:s≠[]):a9m s=b2I.contains (s.getD (s.length - 1) 0):=by
 unfold a9m;rw[List.getLast?_eq_getElem?,List.getD_eq_getElem?_getD,List.getElem?_eq_getElem (by have:=List.length_pos_iff.2 h0;omega)];rfl
theorem c3Z (s:B) (h:List Res) (m:View) (hs:s.length<=140737488355328):CT Tryz.prog 27 [str s] h m (A6 h (.bool (a9m s))):=by
 have hd:∀ k,k < s.length->s[k]?=some (s.getD k 0):=fun k hi=>by rw[List.getD_eq_getElem?_getD,List.getElem?_eq_getElem hi];rfl
 refine CT.body Tryz.call27 Tryz.func27 rfl Tryz.ntmps27 Lb rfl ?_;refine kQ1 [0] ?_;refine kA1 ?_;refine xG (K7 uu9 Et) ?_;refine kQ1 [0,6] ?_;refine wc (fun c6=>?_) fun c6=>?_
 replace c6:=H7 c6;refine kQ1 [2] ?_;refine wT h ?_;exact⟨by rw[List.eq_nil_of_length_eq_zero (l:=s) (by omega)];rfl,rfl⟩;replace c6:=H5 c6;have h0:s≠[]:=fun e=>c6 (by rw[e];rfl)
 have hp:0 < s.length:=List.length_pos_iff.2 h0;have hc:=c0i h0;refine kQ0 [0] ?_;refine kQ1 [0,3] ?_;refine B6 [0] rfl (fun μ F' h'=>∃ k:Nat,(k<=14/\a9m s=(b2I.drop k).contains (s.getD (s.length - 1) 0))/\14 - k=μ/\F'=[(3,.int .i64 k)]/\h=h') (14 - 0) [(3,.int .i64 0)] (h0:=h) ?_ Sb ⟨0,⟨by omega,hc⟩,rfl,rfl,rfl⟩ ?_;exact Su;rintro _ _ _ ⟨k,⟨hk,hJ⟩,rfl,rfl,rfl⟩;refine B9 rfl ?_;refine kQ2 [0,3,8] ?_;refine wc (fun c8=>?_) fun c8=>?_
 replace c8:=dT c8;obtain⟨c,hcc⟩:=A5 (l:=b2I) (k:=k) (by show k < 14;omega);rw[X2 hcc,List.contains_cons] at hJ;refine kQ0 [0,3] ?_;refine dS [] (.op 0 (.op 1 (.op 2 (.op 3 (.op 4 (.op 5 (.op 6 .nil))))))) [7] F1 ?_;refine kA2 ?_;refine yG rfl (K7 uu9 Et) ?_;refine yG rfl (U0 Et Ek (by omega)) ?_;refine yG rfl (J4 uu9 Et Et (q:=s.length - 1) (by omega) (hd _ (by omega))) ?_;refine kA1 ?_;refine yG rfl (J4 uu9 Ek Et rfl hcc) ?_;refine SR.nil rfl rfl ?_;refine kQ1 [0,3,18] ?_;refine wc (fun c18=>?_) fun c18=>?_
 rw[a81] at c18;refine kQ1 [2] ?_;refine wT h ?_;exact⟨by rw[hJ,c18];rfl,rfl⟩;rw[a81] at c18;refine kQ0 [0,3] ?_;refine kA3 ?_;refine WL.nil (A7 (14 - (k+1)) [(3,.int .i64 (k+1))] (h'':=h) (by omega) ?_ Su Sb ⟨k+1,⟨by omega,by rw[hJ,c18];rfl⟩,rfl,rfl,rfl⟩);exact Su;replace c8:=dF c8;have e:k=14:=by omega
 subst e;refine kQ0 [] ?_;refine kQ1 [2] ?_;refine wT h ?_;exact⟨by rw[hJ];rfl,rfl⟩
theorem c3c (s:B) (h:List Res) (m:View) (hs:s.length<=140737488355328):CT Tryz.prog 15 [str s] h m (A6 h (.bool (validP s))):=by
 have hd:∀ k,k < s.length->s[k]?=some (s.getD k 0):=fun k hi=>by rw[List.getD_eq_getElem?_getD,List.getElem?_eq_getElem hi];rfl
 rw[<- c6E];refine CT.body Tryz.call15 Tryz.func15 rfl Tryz.ntmps15 Lb rfl ?_;refine kQ1 [0] ?_;refine kA1 ?_;refine xG (K7 uu9 Et) ?_;refine kA3 ?_;refine zG (fun hc=>K7 uu9 (Eg hc)) ?_;refine kA4 ?_;refine F9 (GU.f rfl rfl) (fun hc=>J4 uu9 (Eg hc) Ek (q:=0) rfl (hd 0 (by simp at hc;omega))) Lb ?_;refine kA5 ?_;refine zG (fun hc=>K7 uu9 (Eg hc)) ?_;refine F9 (GU.f rfl rfl) (fun hc=>U0 (Eg hc) Ek (by first | omega | (simp at hc;omega))) Lb ?_;refine F9 (GU.f rfl rfl) (fun hc=>J4 uu9 (Eg hc) (Eg hc) (q:=s.length - 1) (by simp at hc;omega) (hd (s.length - 1) (by simp at hc;omega))) Lb ?_;refine kA4 ?_;refine A9 (GU.f rfl rfl) (fun hc=>⟨Ef,(E1 (Eg hc)),c3Z _ _ _ (by omega)⟩) Lb ?_;refine kQ1 [0,28] ?_;refine wc (fun c28=>?_) fun c28=>?_
 have hb:b0O s=true:=by unfold b0O;rw[<- b3R,<- b3R];exact c28
 refine kQ1 [2] ?_;refine wT h ?_;exact⟨by unfold b2l;rw[hb];rfl,rfl⟩;have hb:b0O s=false:=by unfold b0O;rw[<- b3R,<- b3R];exact c28
 refine kQ0 [0] ?_;refine kQ1 [0,3] ?_;refine B6 [0] rfl (fun μ F' h'=>∃ k:Nat,(k<=s.length/\b0q s=b0q (s.drop k))/\s.length - k=μ/\F'=[(3,.int .i64 k)]/\h=h') (s.length - 0) [(3,.int .i64 0)] (h0:=h) ?_ Sb ⟨0,⟨by omega,rfl⟩,rfl,rfl,rfl⟩ ?_;exact Su;rintro _ _ _ ⟨k,⟨hk,hJ⟩,rfl,rfl,rfl⟩;refine B9 rfl ?_;refine kA3 ?_;refine xG (K7 uu9 Et) ?_;refine kQ1 [0,3,33] ?_;refine wc (fun c33=>?_) fun c33=>?_
 replace c33:=dT c33;obtain⟨c,hc⟩:=A5 (l:=s) (k:=k) (by omega);obtain⟨d,hdd⟩:=A5 (l:=s) (k:=k+1) (by omega);rw[c7m hc hdd] at hJ;refine kQ0 [0,3] ?_;refine kA2 ?_;refine xG (J4 uu9 Et Et rfl (by assumption)) ?_;refine kA4 ?_;refine F9 (GU.t rfl rfl) (fun hc=>O7 (Eg hc) Ek (by first | omega | (simp at hc;omega))) Lb ?_;refine zG (fun hc=>J4 uu9 (Eg hc) (Eg hc) rfl hdd) ?_;refine kQ2 [0,3,46] ?_;refine wc (fun c46=>?_) fun c46=>?_
 have hcd:(c==45&&d==45)=true:=by rw[<- b4j,<- b4j];exact c46
 refine kQ1 [2] ?_;refine wT h ?_;exact⟨by unfold b2l;rw[hJ,hcd];simp,rfl⟩;have hcd:(c==45&&d==45)=false:=by rw[<- b4j,<- b4j];exact c46
 refine kQ0 [0,3] ?_;refine kA3 ?_;refine WL.nil (A7 (s.length - (k+1)) [(3,.int .i64 (k+1))] (h'':=h) (by omega) ?_ Su Sb ⟨k+1,⟨by omega,by rw[hJ,hcd];rfl⟩,rfl,rfl,rfl⟩);exact Su;replace c33:=dF c33;rw[c2w (by omega)] at hJ;refine kQ0 [0] ?_;refine kA1 ?_;refine xf (E1 Et) (b1g _ _ _ (by omega)) ?_;refine kQ1 [2] ?_;refine wT h ?_;exact⟨by unfold b2l;rw[hb,hJ];rfl,rfl⟩
theorem mayR_ct (a:Option Addr) (n c:Nat) (l:List Rw) (h:List Res) (m:View) (hr:Rd m h a n c 3 (fl S9 l)) (hs:∀ x ∈ l,x.text.length<=140737488355328):CT Tryz.prog 8 [.slice a n c] h m (A6 h (.bool (mayP l))):=by
 have hl:=hr.lenF F7 (by decide);have hmx:=hr.mx;have hle:=hr.le;subst hl;refine CT.body Tryz.call8 Tryz.func8 rfl Tryz.ntmps8 Lb rfl ?_;refine kQ1 [0] ?_;refine kQ3 [0,9] ?_;refine wc (fun c9=>?_) fun c9=>?_
 replace c9:=dT c9;refine kQ1 [2] ?_;refine wT h ?_;exact⟨by unfold mayP;rw[if_pos c9],rfl⟩;replace c9:=dF c9;have hm:mayP l=b1M 0 (-1) 0 l:=by unfold mayP;rw[if_neg c9]
 refine kQ0 [0] ?_;refine kQ1 [0,3] ?_;refine kQ1 [0,3,4] ?_;refine B6 [0] rfl (fun μ F' h'=>∃ k:Nat,∃ no:Int,∃ dp:Int,∃ size:Int,((k<=l.length/\(-1<=dp/\dp<=32)/\(0<=no/\no<=65536)/\(0<=size/\size<=k * 321)/\((k=0/\no=0/\dp=-1)\/∃ y,0 < k/\l[k - 1]?=some y/\y.no=no/\y.depth=dp))/\mayP l=b1M no dp size (l.drop k))/\l.length - k=μ/\F'=[(3,.int .i64 size),(4,.int .i64 k)]/\h=h') (l.length - 0) [(3,.int .i64 0),(4,.int .i64 0)] (h0:=h) ?_ Sb ⟨0,0,-1,0,⟨⟨by omega,by omega,by omega,by omega,.inl ⟨rfl,rfl,rfl⟩⟩,hm⟩,rfl,rfl,rfl⟩ ?_;exact Su;rintro _ _ _ ⟨k,no,dp,size,⟨⟨hk,hdp,hno,hsz,hpr⟩,hJ⟩,rfl,rfl,rfl⟩;refine B9 rfl ?_;refine kQ4 [0,3,4,13] ?_;refine wc (fun c13=>?_) fun c13=>?_
 replace c13:=dT c13;obtain⟨x,hx⟩:=A5 (l:=l) (k:=k) (by omega);have hxs:=hs x (List.mem_of_getElem? hx);rw[b3c hx] at hJ;refine kQ0 [0,3,4] ?_;refine kQ1 [0,3,4,5] ?_;refine kQ1 [0,3,4,5,6] ?_;refine kP2 [0,3,4,5,6,17] ?_;refine K6 KKh [0,3,4] rfl (fun F' h'=>∃ u:Int,∃ w:Int,(u=no+1/\w=dp+1)/\F'=[(5,.int .i64 u),(6,.int .i64 w)]/\h=h') ?_ ?_;refine jE ?_;refine wc (fun c17=>?_) fun c17=>?_
 replace c17:=dT c17;obtain⟨y,hy0,hy,hyn,hyd⟩:=hpr.resolve_left (fun q=>by omega);refine kA2 ?_;refine xG (U0 Et Ek (by omega)) ?_;refine WL.val (v':=.int .i64 ((k - 1:Nat):Int)) (congrArg (Value.int .i64) (by omega)) ?_;refine kQ5 [0,3,4,5] ?_;refine kA2 ?_;refine xG (U0 Et Ek (by omega)) ?_;refine WL.val (v':=.int .i64 ((k - 1:Nat):Int)) (congrArg (Value.int .i64) (by omega)) ?_;refine kA5 ?_;refine WL.nil (D8 [(5,.int .i64 (y.no+1)),(6,.int .i64 (y.depth+1))] (h'':=h) ?_ Su Sb ⟨y.no+1,y.depth+1,⟨by omega,by omega⟩,rfl,rfl⟩);exact Su;replace c17:=dF c17;obtain⟨hk0,hn0,hd0⟩:k=0/\no=0/\dp=-1:=hpr.resolve_right (fun ⟨y,q,_⟩=>by omega);refine WC.skip (D8 [(5,.int .i64 1),(6,.int .i64 0)] (h'':=h) ?_ Su Sb ⟨1,0,⟨by omega,by omega⟩,rfl,rfl⟩);exact Su;rintro _ _ ⟨u,w,⟨rfl,rfl⟩,rfl,rfl⟩;refine B9 rfl ?_;refine b1C ?_
 refine F9 (GU.f rfl rfl) (fun hc=>G8 a1w.und a1w.size a1w.posz (Eg hc) (Eg hc) Rr rfl (by omega)) Lb ?_;refine zG (fun hc=>H8 b3A rfl (Nat.ne_of_beq_eq_false rfl) F7 (Nat.succ_pos _) Rr (by assumption) (Eg hc)) ?_;refine zG (fun hc=>H6 uu3 rfl F7 Rr (Eg hc) (by assumption) rfl) ?_;refine kA5 ?_;refine F9 (GU.f rfl rfl) (fun hc=>G8 a1w.und a1w.size a1w.posz (Eg hc) (Eg hc) Rr rfl (by omega)) Lb ?_;refine zG (fun hc=>H8 b3A rfl (Nat.ne_of_beq_eq_false rfl) F7 (Nat.succ_pos _) Rr (by assumption) (Eg hc)) ?_;refine zG (fun hc=>H6 uu3 rfl F7 Rr (Eg hc) (by assumption) rfl) ?_;refine kA5 ?_;refine F9 (GU.f rfl rfl) (fun hc=>G8 a1w.und a1w.size a1w.posz (Eg hc) (Eg hc) Rr rfl (by omega)) Lb ?_;refine zG (fun hc=>H8 b3A rfl (Nat.ne_of_beq_eq_false rfl) F7 (Nat.succ_pos _) Rr (by assumption) (Eg hc)) ?_;refine zG (fun hc=>H6 uu3 rfl F7 Rr (Eg hc) (by assumption) rfl) ?_;refine kA6 ?_
 refine F9 (GU.f rfl rfl) (fun hc=>G8 a1w.und a1w.size a1w.posz (Eg hc) (Eg hc) Rr rfl (by omega)) Lb ?_;refine zG (fun hc=>H8 b3A rfl (Nat.ne_of_beq_eq_false rfl) F7 (Nat.succ_pos _) Rr (by assumption) (Eg hc)) ?_;refine zG (fun hc=>H6 uu3 rfl F7 Rr (Eg hc) (by assumption) rfl) ?_;refine kA5 ?_;refine F9 (GU.f rfl rfl) (fun hc=>G8 a1w.und a1w.size a1w.posz (Eg hc) (Eg hc) Rr rfl (by omega)) Lb ?_;refine zG (fun hc=>H8 b3A rfl (Nat.ne_of_beq_eq_false rfl) F7 (Nat.succ_pos _) Rr (by assumption) (Eg hc)) ?_;refine zG (fun hc=>H6 uu9 rfl F7 Rr (Eg hc) (by assumption) rfl) ?_;refine A9 (GU.f rfl rfl) (fun hc=>⟨Ef,(E1 (Eg hc)),c3c _ _ _ (by omega)⟩) Lb ?_;refine kQ2 [0,3,4,80] ?_;refine wc (fun c80=>?_) fun c80=>?_
 have hb:b1S no dp x=true:=by rw[<- b4A];exact c80
 rw[if_pos hb] at hJ;refine kQ1 [2] ?_;refine wT h ?_;exact⟨by rw[hJ],rfl⟩;have hb:b1S no dp x=false:=by rw[<- b4A];exact c80
 rw[hb] at hJ;obtain⟨h1,h2,h3,h4,h5,h6⟩:=b4m hb;have h7:=(validP_spec h6).2.1;refine kQ0 [0,3,4] ?_;refine dS [] (.op 0 (.op 1 (.op 2 (.op 3 (.op 4 (.op 5 (.op 6 (.op 7 (.op 8 (.op 9 (.op 10 (.op 11 (.op 12 (.op 13 .nil)))))))))))))) [14,15,16] F1 ?_;refine kA6 ?_;refine yG rfl (a9q Ek Et (by omega)) ?_;refine yG rfl (O7 Et Et (by omega)) ?_;refine kA5 ?_;refine yG rfl (K7 uu9 Et) ?_;refine SR.nil rfl rfl ?_;refine xG (O7 Et Et (by omega)) ?_;refine kQ2 [0,3,4] ?_;refine kA3 ?_;refine WL.nil (A7 (l.length - (k+1)) [(3,.int .i64 (size+2 * x.depth+x.text.length+1)),(4,.int .i64 (k+1))] (h'':=h) (by omega) ?_ Su Sb ⟨k+1,x.no,x.depth,size+2 * x.depth+x.text.length+1,⟨⟨by omega,by omega,by omega,by omega,.inr ⟨x,by omega,hx,rfl,rfl⟩⟩,hJ⟩,rfl,rfl,rfl⟩);exact Su;replace c13:=dF c13;rw[List.drop_eq_nil_of_le (by omega)] at hJ;refine kQ0 [3] ?_;refine kQ3 [2] ?_;refine wT h ?_
 exact⟨by rw[hJ];rfl,rfl⟩
end
end Go.Proofs.YtkemgjnejlkkcaaGreatDoor.Ly7
namespace Go.Proofs.YtkemgjnejlkkcaaGreatDoor
section
open Go.Eng Go.Pc Go.Sx Go
open Go.Xp hiding B D1
open Go.Ly (Rw S9 F7)
def Law:Value->View->List Res->Prop:=fun v _ _=>v=.bool true
theorem b7R (p q:Pr):D6 p (stP q)=D6 p q:=by rw[b0J,b93,b0J]
end
end Go.Proofs.YtkemgjnejlkkcaaGreatDoor
