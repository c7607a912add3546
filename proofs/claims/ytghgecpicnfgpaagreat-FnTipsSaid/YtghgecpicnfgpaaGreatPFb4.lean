/- The texts of the functions: part 5. -/
import Derived.Test.YtghgecpicnfgpaaGreatPFa
import Derived.Test.YtghgecpicnfgpaaGreatProg
import Derived.KernelRfl
namespace Go.Proofs.YtghgecpicnfgpaaGreat.Ow
open Go
set_option maxRecDepth 100000
set_option maxHeartbeats 8000000
noncomputable section
abbrev q249:Q 249:=⟨⟨112,[],_,_⟩,pF h249 Tryz.func249 rfl (pU (pU (pU (pS (pU (pD (pU pR) pK)) (pU (pU (pU (pU (pU (pU (pS (pU (pB (pL (pS (pU (pD pK pE)) (pS (pB (pU pA)) pA))))) (pU (pS (pS (pX (.r 0 21 (.r 22 7 (.a (.l 21 [] (.l 29 [] (.r 30 2 .f))) (.l 29 [] (.l 21 [] (.r 30 2 .f))))))) (pD (pU pR) pK)) (pU pR))))))))))))))⟩
abbrev p249:=q249.1
abbrev b249_0:=(⟨_,by cbv⟩:QB q249.1 0).1
abbrev q250:Q 250:=⟨⟨104,[1,1,1,1,1,1,1,1,1,1,1,1,1,1,1,1],_,_⟩,pF h250 Tryz.func250 rfl (pU (pU (pS (pU (pB (pU (pD (pU pR) (pU (pD (pU (pU pR)) (pU (pD (pU pR) (pU (pD (pU (pS (pU (pD pA pK)) (pS (pU (pD (pU pR) pK)) (pS (pX (.r 0 9 (.l 9 [0] (.l 10 [] (.o 11 .f))))) pR)))) pK)))))))))) (pS (pU (pD (pU pR) pK)) (pU pR)))))⟩
abbrev p250:=q250.1
abbrev q251:Q 251:=⟨⟨21,[],_,_⟩,pG h251 Tryz.func251 rfl⟩
abbrev p251:=q251.1
abbrev b251_0:=(⟨_,by cbv⟩:QB q251.1 0).1
abbrev q252:Q 252:=⟨⟨21,[1,1,1,1,1,1,1,1,1,1,1,1,1,1,1,1],_,_⟩,pG h252 Tryz.func252 rfl⟩
abbrev p252:=q252.1
abbrev q253:Q 253:=⟨⟨28,[],_,_⟩,pG h253 Tryz.func253 rfl⟩
abbrev p253:=q253.1
abbrev b253_0:=(⟨_,by cbv⟩:QB q253.1 0).1
abbrev q254:Q 254:=⟨⟨33,[0,0,0,0,0,0,0,0,0,0,0,0,0,0,0,0,0,0,0,0,0,2],_,_⟩,pG h254 Tryz.func254 rfl⟩
abbrev p254:=q254.1
abbrev b254_0:=(⟨_,by cbv⟩:QB q254.1 0).1
abbrev q255:Q 255:=⟨⟨67,[],_,_⟩,pG h255 Tryz.func255 rfl⟩
abbrev p255:=q255.1
abbrev q256:Q 256:=⟨⟨92,[],_,_⟩,pF h256 Tryz.func256 rfl (pU (pS (pU (pD (pS (pX (.o 0 (.o 2 (.l 1 [2] (.l 3 [] (.l 4 [] (.l 5 [] (.o 6 .f)))))))) pR) pK)) (pU (pS (pX (.o 0 (.o 2 (.a (.l 1 [2] (.a (.l 3 [] (.a (.l 4 [] (.l 5 [] (.l 6 [] (.l 7 [] .f)))) (.l 5 [] (.l 4 [] (.l 6 [] (.l 7 [] .f)))))) (.a (.l 4 [2] (.a (.l 3 [] (.l 5 [] (.l 6 [] (.l 7 [] .f)))) (.l 5 [2] (.l 3 [] (.l 6 [] (.l 7 [] .f)))))) (.l 5 [2] (.a (.l 3 [] (.l 4 [] (.l 6 [] (.l 7 [] .f)))) (.l 4 [2] (.l 3 [] (.l 6 [] (.l 7 [] .f))))))))) (.a (.l 4 [2,0] (.a (.l 1 [2] (.a (.l 3 [] (.l 5 [] (.l 6 [] (.l 7 [] .f)))) (.l 5 [2] (.l 3 [] (.l 6 [] (.l 7 [] .f)))))) (.l 5 [2,0] (.l 1 [2] (.l 3 [] (.l 6 [] (.l 7 [] .f))))))) (.l 5 [2,0] (.a (.l 1 [2] (.a (.l 3 [] (.l 4 [] (.l 6 [] (.l 7 [] .f)))) (.l 4 [2] (.l 3 [] (.l 6 [] (.l 7 [] .f)))))) (.l 4 [2,0] (.l 1 [2] (.l 3 [] (.l 6 [] (.l 7 [] .f)))))))))))) (pU (pU (pU (pS (pX (.r 0 4 (.o 5 (.l 4 [3,1] (.l 6 [3,1] (.o 7 (.l 8 [] .f))))))) (pU (pS (pX (.r 0 4 (.o 5 (.l 4 [3,1] (.l 6 [3,1] (.o 7 (.l 8 [] .f))))))) (pU (pU (pU (pU (pS (pU (pD (pS (pX (.o 0 (.o 2 (.l 1 [2] (.l 3 [] (.l 4 [] (.l 5 [] (.o 6 .f)))))))) pR) pK)) (pS (pX (.r 0 2 (.l 2 [1] (.l 3 [] (.o 4 .f))))) pR))))))))))))))))⟩
abbrev p256:=q256.1
abbrev q257:Q 257:=⟨⟨108,[],_,_⟩,pF h257 Tryz.func257 rfl (pU (pU (pS (pU (pD (pU pR) pK)) (pS (pU (pD (pU (pS (pX (.r 0 9 (.l 9 [1] (.o 10 (.l 11 [] .f))))) (pS (pX (.r 0 12 (.a (.l 12 [0] (.l 13 [] (.o 14 .f))) (.l 13 [9,6,2] (.l 12 [] (.o 14 .f)))))) pR))) pK)) (pU (pU (pU (pU (pS (pU (pD (pU pR) pK)) (pS (pX (.r 0 7 (.r 8 3 (.l 7 [10,6,2,0] (.l 11 [6,2,0] (.r 12 2 (.a (.l 14 [0] (.l 15 [] (.o 16 .f))) (.l 15 [6,2] (.l 14 [] (.o 16 .f)))))))))) pR))))))))))⟩
abbrev p257:=q257.1
abbrev q258:Q 258:=⟨⟨29,[],_,_⟩,pG h258 Tryz.func258 rfl⟩
abbrev p258:=q258.1
abbrev q259:Q 259:=⟨⟨11,[],_,_⟩,pG h259 Tryz.func259 rfl⟩
abbrev p259:=q259.1
abbrev q260:Q 260:=⟨⟨43,[],_,_⟩,pG h260 Tryz.func260 rfl⟩
abbrev p260:=q260.1
abbrev q261:Q 261:=⟨⟨14,[1,1,1,1,0,0,1,1,1,1,1,1,1,1,1,1,0,0,0,0,0,0],_,_⟩,pG h261 Tryz.func261 rfl⟩
abbrev p261:=q261.1
abbrev q262:Q 262:=⟨⟨83,[],_,_⟩,pG h262 Tryz.func262 rfl⟩
abbrev p262:=q262.1
abbrev q263:Q 263:=⟨⟨55,[],_,_⟩,pG h263 Tryz.func263 rfl⟩
abbrev p263:=q263.1
abbrev b263_0:=(⟨_,by cbv⟩:QB q263.1 0).1
abbrev q264:Q 264:=⟨⟨20,[],_,_⟩,pG h264 Tryz.func264 rfl⟩
abbrev p264:=q264.1
abbrev q267:Q 267:=⟨⟨66,[],_,_⟩,pG h267 Tryz.func267 rfl⟩
abbrev p267:=q267.1
abbrev b267_0:=(⟨_,by cbv⟩:QB q267.1 0).1
abbrev q268:Q 268:=⟨⟨27,[],_,_⟩,pG h268 Tryz.func268 rfl⟩
abbrev p268:=q268.1
abbrev b268_0:=(⟨_,by cbv⟩:QB q268.1 0).1
abbrev q269:Q 269:=⟨⟨27,[],_,_⟩,pG h269 Tryz.func269 rfl⟩
abbrev p269:=q269.1
abbrev b269_0:=(⟨_,by cbv⟩:QB q269.1 0).1
abbrev q270:Q 270:=⟨⟨27,[2],_,_⟩,pG h270 Tryz.func270 rfl⟩
abbrev p270:=q270.1
abbrev q271:Q 271:=⟨⟨57,[],_,_⟩,pG h271 Tryz.func271 rfl⟩
abbrev p271:=q271.1
abbrev b271_0:=(⟨_,by cbv⟩:QB q271.1 0).1
abbrev q272:Q 272:=⟨⟨24,[],_,_⟩,pF h272 Tryz.func272 rfl (pU (pS (pX (.o 0 (.o 2 (.a (.l 1 [2] (.a (.l 3 [] (.r 4 3 (.l 7 [] (.l 8 [] (.o 9 .f))))) (.l 7 [2] (.l 3 [] (.r 4 3 (.l 8 [] (.o 9 .f))))))) (.l 7 [2,0] (.l 1 [2] (.l 3 [] (.r 4 3 (.l 8 [] (.o 9 .f)))))))))) (pS (pU (pD (pU pR) pK)) (pU pR))))⟩
abbrev p272:=q272.1
abbrev q273:Q 273:=⟨⟨7,[],_,_⟩,pG h273 Tryz.func273 rfl⟩
abbrev p273:=q273.1
abbrev q274:Q 274:=⟨⟨96,[],_,_⟩,pG h274 Tryz.func274 rfl⟩
abbrev p274:=q274.1
abbrev b274_0:=(⟨_,by cbv⟩:QB q274.1 1).1
abbrev b274_1:=(⟨_,by cbv⟩:QB q274.1 0).1
abbrev q275:Q 275:=⟨⟨56,[1,1,1,1,1,1,1,1,1,1,1,1,1,1,1,1],_,_⟩,pF h275 Tryz.func275 rfl (pU (pU (pU (pS (pU (pB (pL (pS (pU (pD pK pE)) (pS (pB (pU (pD (pX (.r 0 9 (.l 9 [1] (.o 10 (.l 11 [] .f))))) (pU (pD (pX (.r 0 9 (.l 9 [1] (.o 10 (.l 11 [] .f))))) pK))))) pA))))) (pU (pU pR))))))⟩
abbrev p275:=q275.1
abbrev b275_0:=(⟨_,by cbv⟩:QB q275.1 0).1
abbrev q276:Q 276:=⟨⟨26,[1,1,1,1,1,1,1,1,1,1,1,1,1,1,1,1],_,_⟩,pG h276 Tryz.func276 rfl⟩
abbrev p276:=q276.1
abbrev q277:Q 277:=⟨⟨59,[],_,_⟩,pF h277 Tryz.func277 rfl (pU (pU (pS (pU (pD (pU pR) pK)) (pU (pS (pX (.r 0 9 (.l 9 [1] (.o 10 (.l 11 [] .f))))) (pU (pS (pU (pD (pU pR) pK)) (pU pR))))))))⟩
abbrev p277:=q277.1
abbrev q278:Q 278:=⟨⟨60,[],_,_⟩,pG h278 Tryz.func278 rfl⟩
abbrev p278:=q278.1
abbrev b278_0:=(⟨_,by cbv⟩:QB q278.1 0).1
abbrev q279:Q 279:=⟨⟨23,[],_,_⟩,pF h279 Tryz.func279 rfl (pU (pS (pX (.r 0 16 (.l 16 [] (.r 17 2 .f)))) pR))⟩
abbrev p279:=q279.1
abbrev q280:Q 280:=⟨⟨97,[],_,_⟩,pG h280 Tryz.func280 rfl⟩
abbrev p280:=q280.1
abbrev q281:Q 281:=⟨⟨29,[],_,_⟩,pF h281 Tryz.func281 rfl (pU (pS (pU (pD (pU pR) pK)) (pS (pX (.r 0 14 (.l 14 [] (.o 15 .f)))) pR)))⟩
abbrev p281:=q281.1
abbrev q282:Q 282:=⟨⟨10,[],_,_⟩,pG h282 Tryz.func282 rfl⟩
abbrev p282:=q282.1
abbrev q283:Q 283:=⟨⟨13,[1,1,1,1,1,1,1,1,1,1,1,1,1,1,1,1],_,_⟩,pG h283 Tryz.func283 rfl⟩
abbrev p283:=q283.1
abbrev q284:Q 284:=⟨⟨19,[],_,_⟩,pF h284 Tryz.func284 rfl (pU (pS (pX (.o 0 (.l 1 [] (.r 2 2 (.l 4 [] (.r 5 4 (.r 10 2 (.l 9 [11] (.r 12 3 .f))))))))) pR))⟩
abbrev p284:=q284.1
abbrev q286:Q 286:=⟨⟨30,[],_,_⟩,pG h286 Tryz.func286 rfl⟩
abbrev p286:=q286.1
abbrev b286_0:=(⟨_,by cbv⟩:QB q286.1 0).1
abbrev q287:Q 287:=⟨⟨27,[],_,_⟩,pG h287 Tryz.func287 rfl⟩
abbrev p287:=q287.1
abbrev b287_0:=(⟨_,by cbv⟩:QB q287.1 0).1
abbrev q288:Q 288:=⟨⟨53,[],_,_⟩,pF h288 Tryz.func288 rfl (pU (pS (pB (pS (pU (pD pK (pX (.r 0 18 .f)))) (pD (pU pR) (pU (pD (pU pR) (pU (pD (pU pR) pK))))))) (pU pR)))⟩
abbrev p288:=q288.1
abbrev q289:Q 289:=⟨⟨34,[],_,_⟩,pG h289 Tryz.func289 rfl⟩
abbrev p289:=q289.1
abbrev b289_0:=(⟨_,by cbv⟩:QB q289.1 1).1
abbrev b289_1:=(⟨_,by cbv⟩:QB q289.1 0).1
abbrev q290:Q 290:=⟨⟨55,[],_,_⟩,pF h290 Tryz.func290 rfl (pU (pS (pU (pD (pU pR) pK)) (pU (pS (pB (pL (pS (pS (pX (.r 0 27 .f)) (pD pK pE)) (pB pA)))) (pU pR)))))⟩
abbrev p290:=q290.1
abbrev b290_0:=(⟨_,by cbv⟩:QB q290.1 0).1
abbrev q291:Q 291:=⟨⟨51,[],_,_⟩,pF h291 Tryz.func291 rfl (pU (pU (pS (pU (pD (pU pR) pK)) (pS (pB (pL (pS (pS (pX (.r 0 27 .f)) (pD pK pE)) (pB pA)))) (pU pR)))))⟩
abbrev p291:=q291.1
abbrev b291_0:=(⟨_,by cbv⟩:QB q291.1 0).1
end
end Go.Proofs.YtghgecpicnfgpaaGreat.Ow
