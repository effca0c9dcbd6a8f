/- Parts of the proof; conditions: as its theorems name them. -/
import Derived.Test.YtppdgejjmhdjhaaGreatDoorMax
set_option linter.unusedVariables false
set_option linter.unusedSimpArgs false
set_option maxHeartbeats 8000000
set_option maxRecDepth 100000
namespace Go.Proofs.YtppdgejjmhdjhaaGreatDoor
section
def jE(l:List Int)(x:Int):List Int:=if x∈l then l else l.take (aR l x)++x::l.drop (aR l x)
def dF(l:List Int)(x:Int):List Int:=l.filter fun y=>!decide (y=x)
def vY(l:List GR)(g:Int):List GR:=l.take (aR (l.map GR.no) g)++⟨g,[]⟩::l.drop (aR (l.map GR.no) g)
def mC(l:List GR)(g:Int):List GR:=l.filter fun x=>!decide (x.no=g)
def bH(l:List GR)(g:Int):List Int:=((l.find? fun x=>decide (x.no=g)).map GR.mem).getD []
def eW(l:List GR)(g:Int)(m:List Int):List GR:=l.map fun x=>if x.no=g then⟨g,m⟩ else x
def lvG(l:List GR)(id:Int):List GR:=l.map fun x=>⟨x.no,dF x.mem id⟩
def o9(l:List DE):List DE:=if 40<l.length then l.drop 1 else l
def doT(B:BK)(x:ED):Int × BK × List Int :=
 if aQ x≠0 then(aQ x,B,[])
 else if 1099511627676<B.sq then(8,B,[])
 else if x.kd=1 then(if 48≤B.cards.length∨1073741824≤B.nx then(8,B,[]) else(0,{ B with nx:=B.nx+1,cards:=B.cards++[bY B.nx x.p] },[B.nx]))
 else if x.kd=2 then(if (bB B.cards B.dead x.id).2≠0 then((bB B.cards B.dead x.id).2,B,[]) else if 1099511627776≤(bB B.cards B.dead x.id).1.ver then(8,B,[])
  else(0,{ B with cards:=wrC B.cards x.id (cV (bB B.cards B.dead x.id).1 x.p) },[x.id]))
 else if x.kd=3 then(if (bB B.cards B.dead x.id).2≠0 then((bB B.cards B.dead x.id).2,B,[])
  else(0,{ B with cards:=B.cards.filter (fun c=>!decide (c.id=x.id)),dead:=o9 (B.dead++[⟨x.id,(bB B.cards B.dead x.id).1.ver,B.sq+1⟩]),gr:=lvG B.gr x.id },[x.id]))
 else if x.kd=4 then(if x.gr∈B.gr.map GR.no then(7,B,[]) else(0,{ B with gr:=vY B.gr x.gr },[0]))
 else if x.kd=5 then(if x.gr∈B.gr.map GR.no then(0,{ B with gr:=mC B.gr x.gr },bH B.gr x.gr++[0]) else(6,B,[]))
 else if x.kd=6 then(if (bB B.cards B.dead x.id).2≠0 then((bB B.cards B.dead x.id).2,B,[]) else if x.gr∉B.gr.map GR.no then(6,B,[]) else if x.id∈bH B.gr x.gr then(7,B,[])
  else(0,{ B with gr:=eW B.gr x.gr (jE (bH B.gr x.gr) x.id) },[x.id]))
 else(if x.gr∉B.gr.map GR.no then(6,B,[]) else if x.id∉bH B.gr x.gr then(6,B,[]) else(0,{ B with gr:=eW B.gr x.gr (dF (bH B.gr x.gr) x.id) },[x.id]))
def doB(B:BK)(x:ED):BK:={ (doT B x).2.1 with sq:=B.sq+((doT B x).2.2.length:Int) }
def doE(B:BK)(x:ED):Int:=(doT B x).1
def doC(B:BK)(x:ED):List Int:=(doT B x).2.2
def cT:Int→List Int→List (Int × Int)
 | _,[]=>[]
 | s,i::r=>(s+1,i)::cT (s+1) r
theorem Kz:∀(s:Int) (l:List Int),(cT s l).map chC=dA s l
 | _,[]=>rfl
 | s,i::r=>by rw[cT,dA,List.map_cons,Kz]
theorem Sn{a b:Int}:∀{l:List Int},UpI l→(∀x,x∈l→a≤x∧x<b)→(l.length:Int)≤max (b - a) 0
 | [],_,_=>by simp only[List.length_nil];omega
 | x::l,h,hb=>by
  have h1:=(List.pairwise_cons.1 h)
  have hx:=hb x (List.mem_cons_self ..)
  have:=Sn (a:=x+1) (b:=b) h1.2 fun y hy=>⟨by have:=h1.1 y hy;omega,(hb y (List.mem_cons_of_mem _ hy)).2⟩
  rw[List.length_cons]
  omega
theorem LO:∀{a b:List Int},UpI a→UpI b→(∀x,x∈a→x∈b)→a.length≤b.length
 | [],b,_,_,_=>by simp
 | x::a,[],_,_,h=>absurd (h x (List.mem_cons_self ..)) List.not_mem_nil
 | x::a,y::b,ha,hb,h=>by
  have h1:=List.pairwise_cons.1 ha
  have h2:=List.pairwise_cons.1 hb
  rw[List.length_cons,List.length_cons]
  refine Nat.succ_le_succ (LO h1.2 h2.2 fun z hz=>?_)
  have hxz:=h1.1 z hz
  rcases List.mem_cons.1 (h z (List.mem_cons_of_mem _ hz)) with rfl|q
  ·rcases List.mem_cons.1 (h x (List.mem_cons_self ..)) with rfl|q
   ·omega
   ·have:=h2.1 x q;omega
  ·exact q
theorem Py:∀{last:Int} {l:List GR},iI last l=true→UpI (l.map GR.no)∧(∀g,g∈l→last<g.no∧0≤g.no∧g.no<16∧rN 0 g.mem=true)
 | _,[],_=>⟨.nil,fun g hg=>absurd hg List.not_mem_nil⟩
 | last,x::l,h=>by
  unfold iI at h
  simp only[Bool.and_eq_true,decide_eq_true_eq] at h
  obtain⟨⟨⟨h1,h2,h3⟩,h4⟩,h5⟩:=h
  obtain⟨i1,i2⟩:=Py h5
  refine⟨List.pairwise_cons.2 ⟨fun y hy=>?_,i1⟩,fun g hg=>?_⟩
  ·obtain⟨g,hg,rfl⟩:=List.mem_map.1 hy
   exact(i2 g hg).1
  ·rcases List.mem_cons.1 hg with rfl|hg
   ·exact⟨h1,h2,h3,h4⟩
   ·have:=i2 g hg
    exact⟨by omega,this.2⟩
theorem UG:∀{last:Int} {l:List GR},UpI (l.map GR.no)→(∀g,g∈l→last<g.no∧0≤g.no∧g.no<16∧rN 0 g.mem=true)→iI last l=true
 | _,[],_,_=>rfl
 | last,x::l,h,h'=>by
  obtain⟨i1,i2⟩:=List.pairwise_cons.1 h
  obtain⟨h1,h2,h3,h4⟩:=h' x (List.mem_cons_self ..)
  unfold iI
  simp only[Bool.and_eq_true,decide_eq_true_eq]
  refine⟨⟨⟨h1,h2,h3⟩,h4⟩,UG i2 fun g hg=>?_⟩
  have:=h' g (List.mem_cons_of_mem _ hg)
  exact⟨i1 g.no (List.mem_map.2 ⟨g,hg,rfl⟩),this.2⟩
theorem PJ:∀{last:Int} {l:List Int},UpI l→(∀x,x∈l→last<x∧1≤x∧x<1073741824)→rN last l=true
 | _,[],_,_=>rfl
 | last,x::l,h,h'=>by
  obtain⟨i1,i2⟩:=List.pairwise_cons.1 h
  obtain⟨h1,h2,h3⟩:=h' x (List.mem_cons_self ..)
  unfold rN mM
  simp only[Bool.and_eq_true,decide_eq_true_eq]
  refine⟨⟨h1,h2,h3⟩,PJ i2 fun y hy=>?_⟩
  have:=h' y (List.mem_cons_of_mem _ hy)
  exact⟨i1 y hy,this.2⟩
structure BkW (b:BK):Prop extends BkR b where
 ups:UpI (b.cards.map CA.id)
 dsq:∀d,d∈b.dead→d.sq≤b.sq
 mem:∀g,g∈b.gr→∀x,x∈g.mem→x∈b.cards.map CA.id
 upg:UpI (b.gr.map GR.no)
 gno:∀g,g∈b.gr→0≤g.no∧g.no<16
 upm:∀g,g∈b.gr→UpI g.mem
 mid:∀g,g∈b.gr→∀x,x∈g.mem→1≤x∧x<1073741824
 ng:b.gr.length≤16
 nm:∀g,g∈b.gr→g.mem.length≤48
theorem Wt{b:BK}(h:L9 b=true):BkW b:=by
 have hr:=O2 h
 unfold L9 at h
 simp only[Bool.and_eq_true,decide_eq_true_eq,List.all_eq_true] at h
 obtain⟨⟨-,h1⟩,h2⟩:=h
 have hu:=Sl hr.cok
 obtain⟨g1,g2⟩:=Py hr.gok
 have hm:∀g,g∈b.gr→∀x,x∈g.mem→x∈b.cards.map CA.id:=fun g hg x hx=>Classical.byContradiction fun hn=>by
  have hin:x∈iB g.mem (b.cards.map CA.id):=List.mem_filter.2 ⟨hx,by simpa using hn⟩
  rw[h2 g hg] at hin
  cases hin
 have hi:∀g,g∈b.gr→UpI g.mem:=fun g hg=>(EY (g2 g hg).2.2.2).1
 refine { toBkR:=hr,ups:=hu,dsq:=h1,mem:=hm,upg:=g1,gno:=fun g hg=>⟨(g2 g hg).2.1,(g2 g hg).2.2.1⟩,upm:=hi,mid:=fun g hg x hx=>((EY (g2 g hg).2.2.2).2 x hx).2,ng:=?_,nm:=fun g hg=>?_ }
 ·have:=Sn (a:=0) (b:=16) g1 fun x hx=>by
   obtain⟨g,hg,rfl⟩:=List.mem_map.1 hx
   exact⟨(g2 g hg).2.1,(g2 g hg).2.2.1⟩
  rw[List.length_map] at this
  omega
 ·have:=LO (hi g hg) hu (hm g hg)
  rw[List.length_map] at this
  have:=hr.nc
  omega
end

section
section
variable {α:Type} {f:α→Int}
theorem vQ{x:Int}:∀{l:List α},UpI (l.map f)→(∀y,y∈l.take (aR (l.map f) x)→f y<x)∧∀y,y∈l.drop (aR (l.map f) x)→x≤f y
 | [],_=>⟨fun y hy=>by simp[aR] at hy,fun y hy=>by simp[aR] at hy⟩
 | z::l,h=>by
  obtain⟨h1,h2⟩:=List.pairwise_cons.1 h
  obtain⟨i1,i2⟩:=vQ (x:=x) h2
  by_cases hz:f z<x
  ·have e:aR ((z::l).map f) x=aR (l.map f) x+1:=by simp[aR,hz]
   rw[e,List.take_succ_cons,List.drop_succ_cons]
   refine⟨fun y hy=>?_,i2⟩
   rcases List.mem_cons.1 hy with rfl|hy
   ·exact hz
   ·exact i1 y hy
  ·have e:aR ((z::l).map f) x=0:=by
    unfold aR
    rw[List.length_eq_zero_iff,List.filter_eq_nil_iff]
    intro y hy
    rcases List.mem_cons.1 hy with rfl|hy
    ·simpa using hz
    ·have:=h1 y hy
     simp;omega
   rw[e,List.take_zero,List.drop_zero]
   refine⟨fun y hy=>absurd hy List.not_mem_nil,fun y hy=>?_⟩
   rcases List.mem_cons.1 hy with rfl|hy
   ·omega
   ·have:=h1 (f y) (List.mem_map.2 ⟨y,hy,rfl⟩)
    omega
theorem o6(l:List Int)(x:Int):aR l x≤l.length:=List.length_filter_le _ _
theorem nK{x:Int}{l:List α}(hu:UpI (l.map f))(hx:x∈l.map f):∃y a b,l=a++y::b∧f y=x∧a.length=aR (l.map f) x∧(∀z,z∈a→f z<x)∧∀z,z∈b→x<f z:=by
 obtain⟨y,hy,rfl⟩:=List.mem_map.1 hx
 obtain⟨a,b,rfl⟩:=List.append_of_mem hy
 rw[List.map_append,List.map_cons] at hu
 obtain⟨u1,u2,u3⟩:=List.pairwise_append.1 hu
 obtain⟨u4,u5⟩:=List.pairwise_cons.1 u2
 have ha:∀z,z∈a→f z<f y:=fun z hz=>u3 (f z) (List.mem_map.2 ⟨z,hz,rfl⟩) (f y) (List.mem_cons_self ..)
 have hb:∀z,z∈b→f y<f z:=fun z hz=>u4 (f z) (List.mem_map.2 ⟨z,hz,rfl⟩)
 refine⟨y,a,b,rfl,rfl,?_,ha,hb⟩
 unfold aR
 rw[List.map_append,List.map_cons,List.filter_append,List.filter_eq_self.2,List.filter_eq_nil_iff.2,List.append_nil,List.length_map]
 ·intro z hz
  rcases List.mem_cons.1 hz with rfl|hz
  ·simp
  ·obtain⟨w,hw,rfl⟩:=List.mem_map.1 hz
   have:=hb w hw
   simp;omega
 ·intro z hz
  obtain⟨w,hw,rfl⟩:=List.mem_map.1 hz
  simpa using ha w hw
theorem pQ{x:Int}{l:List α}(hu:UpI (l.map f))(hx:x∈l.map f):∃y,l[aR (l.map f) x]?=some y∧f y=x∧l.find? (fun z=>decide (f z=x))=some y∧y∈l:=by
 obtain⟨y,a,b,e,hy,hl,ha,hb⟩:=nK hu hx
 refine⟨y,by rw[←hl,e];simp,hy,?_,by rw[e];simp⟩
 rw[e,List.find?_append,List.find?_eq_none.2 fun z hz=>by have:=ha z hz;simp;omega]
 simp[hy]
theorem FU{x:Int}{l:List α}(hx:x∉l.map f):l.find? (fun z=>decide (f z=x))=none :=
 List.find?_eq_none.2 fun z hz=>by
  have:f z≠x:=fun h=>hx (List.mem_map.2 ⟨z,hz,h⟩)
  simpa using this
theorem yS{x:Int}{l:List α}(hu:UpI (l.map f))(hx:x∈l.map f):l.filter (fun z=>!decide (f z=x))=l.take (aR (l.map f) x)++l.drop (aR (l.map f) x+1):=by
 obtain⟨y,a,b,e,hy,hl,ha,hb⟩:=nK hu hx
 have e1:l.take (aR (l.map f) x)=a:=by rw[←hl];rw[e];simp
 have e2:l.drop (aR (l.map f) x+1)=b:=by rw[←hl];rw[e];simp
 rw[e1,e2,e,List.filter_append,List.filter_cons,List.filter_eq_self.2,List.filter_eq_self.2]
 ·simp[hy]
 ·intro z hz
  have:=hb z hz
  simp;omega
 ·intro z hz
  have:=ha z hz
  simp;omega
theorem Bq{x:Int}{l:List α}(hx:x∉l.map f):l.filter (fun z=>!decide (f z=x))=l :=
 List.filter_eq_self.2 fun z hz=>by
  have:f z≠x:=fun h=>hx (List.mem_map.2 ⟨z,hz,h⟩)
  simpa using this
theorem yT{x:Int}{l:List α}(hu:UpI (l.map f))(hx:x∈l.map f)(v:α):l.map (fun z=>if f z=x then v else z)=l.set (aR (l.map f) x) v:=by
 obtain⟨y,a,b,e,hy,hl,ha,hb⟩:=nK hu hx
 rw[←hl]
 rw[e,List.map_append,List.map_cons,if_pos hy,List.set_append_right _ _ (Nat.le_refl _),Nat.sub_self,List.set_cons_zero]
 have e1:a.map (fun z=>if f z=x then v else z)=a:=(List.map_congr_left fun z hz=>if_neg (by have:=ha z hz;omega)).trans (List.map_id' a)
 have e2:b.map (fun z=>if f z=x then v else z)=b:=(List.map_congr_left fun z hz=>if_neg (by have:=hb z hz;omega)).trans (List.map_id' b)
 rw[e1,e2]
theorem Lh{x:Int}{l:List α}(hu:UpI (l.map f))(hx:x∉l.map f){v:α}(hv:f v=x):UpI ((l.take (aR (l.map f) x)++v::l.drop (aR (l.map f) x)).map f):=by
 obtain⟨h1,h2⟩:=vQ (x:=x) hu
 have e:=List.take_append_drop (aR (l.map f) x) l
 generalize aR (l.map f) x=k at h1 h2 e ⊢
 rw[←e,List.map_append] at hu
 obtain⟨u1,u2,u3⟩:=List.pairwise_append.1 hu
 rw[List.map_append,List.map_cons,hv]
 have h3:∀y,y∈(l.drop k).map f→x<y:=fun y hy=>by
  obtain⟨z,hz,rfl⟩:=List.mem_map.1 hy
  have:=h2 z hz
  have hne:f z≠x:=fun h=>hx (List.mem_map.2 ⟨z,List.mem_of_mem_drop hz,h⟩)
  omega
 have h4:∀y,y∈(l.take k).map f→y<x:=fun y hy=>by
  obtain⟨z,hz,rfl⟩:=List.mem_map.1 hy
  exact h1 z hz
 refine List.pairwise_append.2 ⟨u1,List.pairwise_cons.2 ⟨h3,u2⟩,fun y hy z hz=>?_⟩
 rcases List.mem_cons.1 hz with rfl|hz
 ·exact h4 y hy
 ·exact u3 y hy z hz
theorem Lp{l:List α}{k:Nat}{v z:α}:z∈l.take k++v::l.drop k↔z=v∨z∈l:=by
 have e:=List.take_append_drop k l
 constructor
 ·intro h
  rcases List.mem_append.1 h with h|h
  ·exact .inr (List.mem_of_mem_take h)
  ·rcases List.mem_cons.1 h with h|h
   ·exact .inl h
   ·exact .inr (List.mem_of_mem_drop h)
 ·rintro(rfl|h)
  ·simp
  ·rw[←e] at h
   rcases List.mem_append.1 h with h|h
   ·exact List.mem_append.2 (.inl h)
   ·exact List.mem_append.2 (.inr (List.mem_cons_of_mem _ h))
end
end
end Go.Proofs.YtppdgejjmhdjhaaGreatDoor
